-- Written by a program of this session's (wip/gprint.py): the kit's print, with functions given by hand.
import Derived.Test.YtnmlnghjapekcaaPTableTellsx7b1
namespace Go.Proofs.Ytnmlnghjapekcaa.PTableTells
open Go.RowKit Go.Proofs.YtnmlnghjapekcaaW.PrintWords Go.Proofs.YtnmlnghjapekcaaW.PrintLast Go.Proofs.YtnmlnghjapekcaaW.PrintMore
attribute [local go_sem] max2_int min2_int max_two min_two max_three min_three max_four min_four   -- for this text's walks alone
set_option linter.unusedVariables false
set_option linter.unusedSimpArgs false
set_option maxHeartbeats 8000000 in
set_option maxRecDepth 100000 in
theorem meterlaw17_TableTells.calls_part0 : meterlaw17_TableTells.calls_cut1.1 := by
 intro k a0_0 a0_1 A0_2 c0_2 l0_2 a1_0 a1_1 A1_2 c1_2 l1_2 a2 a3 r w hu24 HR0_2 HC0_2 HR1_2 HC1_2 HRT A5 z1_0_ gb181 w8 GW181 GE181 gb182 w9 GW182 GE182 NB181_182 NB182_181 w10 z1_1_ z1_2_ z1_3_ z1_4_ z1_5_ z1_6_ z1_7_ z1_8_ z1_9_ z1_10_ z1_11_ z1_12_ z1_13_ z1_14_ z1_15_ z1_16_ z1_17_ z1_18_ z1_19_ z1_20_ z1_21_ z1_22_ z1_23_ z1_24_ z1_25_ z1_26_ z1_27_ z1_28_ z1_29_ z1_30_ z1_31_ z1_32_ z1_33_ z1_34_ z1_35_ z1_36_ z1_37_ z1_38_ z1_39_ z1_40_ z1_41_ z1_42_ z1_43_ z1_44_ z1_45_ z1_46_ z1_47_ z1_48_ z1_49_ z1_50_ z1_51_ z1_52_ z1_53_ z1_54_ z1_55_ z1_56_ z1_57_ z1_58_ z1_59_ z1_60_ z1_61_ z1_62_ z1_63_ z1_64_ z1_65_ z1_66_ z1_67_ z1_68_ z1_69_ z1_70_ z1_71_ z1_72_ z1_73_ z1_74_ z1_75_ z1_76_ z1_77_ z1_78_ z1_79_ z1_80_ z1_81_ z1_82_ z1_83_ z1_84_ z1_85_ z1_86_ z1_87_ z1_88_ z1_89_ z1_90_ z1_91_ z1_92_ z1_93_ z1_94_ z1_95_ z1_96_ z1_97_ z1_98_ z1_99_ z1_100_ z1_101_ z1_102_ z1_103_ z1_104_ z1_105_ z1_106_ z1_107_ z1_108_ z1_109_ z1_110_ z1_111_ z1_112_ z1_113_ z1_114_ z1_115_ z1_116_ z1_117_ z1_118_ z1_119_ z1_120_ z1_121_ z1_122_ z1_123_ z1_124_ z1_125_ z1_126_ z1_127_ z1_128_ z1_129_ z1_130_ z1_131_ z1_132_ z1_133_ z1_134_ z1_135_ z1_136_ z1_137_ z1_138_ z1_139_ z1_140_ z1_141_ z1_142_ z1_143_ z1_144_ z1_145_ z1_146_ z1_147_ z1_148_ z1_149_ z1_150_ z1_151_ z1_152_ z1_153_ z1_154_ z1_155_ z1_156_ z1_157_ z1_158_ z1_159_ z1_160_ z1_161_ z1_162_ z1_163_ z1_164_ z1_165_ z1_166_ z1_167_ z1_168_ z1_169_ z1_170_ z1_171_ z1_172_ z1_173_ z1_174_ kj6 HJ6 y186 Ny186 LMc23 y189 Ny189 t193 t194 t195 t198 A24 t200 t201 t202 t205 A25 t207 t208 t209 t212 A26 t214 t215 t216 t219 A27 t221 t222 A28 HT_ HW_ w30 z1_175_ v187 gb192 w36 hS_ GW192 GE192 NB181_192 NB192_181 NB182_192 NB192_182 z1_176_ Ao37 co37 hs38 hfs38 hns38_0 hns38_1 hms38_0 hms38_1 hs39 hfs39 hns39_0 hns39_1 hms39_0 hms39_1 hs40 hfs40 hns40_0 hns40_1 hms40_0 hms40_1 hHeld w41 gb199 w42 GW199 GE199 NB181_199 NB199_181 NB182_199 NB199_182 NB192_199 NB199_192 hnb43 hnc43 hnb44 hnc44 hnb45 hnc45 Ao47 co47 w48 gb206 w49 GW206 GE206 NB181_206 NB206_181 NB182_206 NB206_182 NB192_206 NB206_192 NB199_206 NB206_199 hnb50 hnc50 hnb51 hnc51 hnb52 hnc52 hnb53 hnc53 Ao55 co55 hnb56 hnc56 hnb57 hnc57 w59 gb213 w60 GW213 GE213 NB181_213 NB213_181 NB182_213 NB213_182 NB192_213 NB213_192 NB199_213 NB213_199 NB206_213 NB213_206 hnb61 hnc61 hnb62 hnc62 hnb63 hnc63 hnb64 hnc64 hnb65 hnc65 Ao67 co67 hnb68 hnc68 w70 gb220 w71 GW220 GE220 NB181_220 NB220_181 NB182_220 NB220_182 NB192_220 NB220_192 NB199_220 NB220_199 NB206_220 NB220_206 NB213_220 NB220_213 hnb72 hnc72 hnb73 hnc73 hnb74 hnc74 hnb75 hnc75 hnb76 hnc76 hnb77 hnc77 Ao79 co79 w81 HO191 HO197 HO204 HO211 HO218 z0_0_ z0_1_ z0_2_ z0_3_ z0_4_ z0_5_ z0_6_ z0_7_ z0_8_ z0_9_ z0_10_ z0_11_ z0_12_ z0_13_ z0_14_ z0_15_ z0_16_ z0_17_ z0_18_ z0_19_ z0_20_ z0_21_ z0_22_ z0_23_ z0_24_ z0_25_ z0_26_ z0_27_ z0_28_ z0_29_ z0_30_ z0_31_ z0_32_ z0_33_ z0_34_ z0_35_ z0_36_ z0_37_ z0_38_ z0_39_ z0_40_ z0_41_ z0_42_ z0_43_ z0_44_ z0_45_ z0_46_ z0_47_ z0_48_ z0_49_ z0_50_ z0_51_ z0_52_ z0_53_ z0_54_ z0_55_ z0_56_ z0_57_ z0_58_ z0_59_ z0_60_ z0_61_ z0_62_ z0_63_ z0_64_ z0_65_ z0_66_ z0_67_ z0_68_ z0_69_ z0_70_ z0_71_ z0_72_ z0_73_ z0_74_ z0_75_ z0_76_ z0_77_ z0_78_ z0_79_ z0_80_ z0_81_ z0_82_ z0_83_ z0_84_ z0_85_ z0_86_ z0_87_ z0_88_ z0_89_ z0_90_ z0_91_ z0_92_ z0_93_ z0_94_ z0_95_ z0_96_ z0_97_ z0_98_ z0_99_ z0_100_ z0_101_ z0_102_ z0_103_ z0_104_ z0_105_ z0_106_ z0_107_ z0_108_ z0_109_ z0_110_ z0_111_ z0_112_ z0_113_ z0_114_ z0_115_ z0_116_ z0_117_ z0_118_ z0_119_ z0_120_ z0_121_ z0_122_ z0_123_ z0_124_ z0_125_ z0_126_ z0_127_ z0_128_ z0_129_ z0_130_ z0_131_ z0_132_ z0_133_ z0_134_ z0_135_ z0_136_ z0_137_ z0_138_ z0_139_ z0_140_ z0_141_ z0_142_ z0_143_ z0_144_ z0_145_ z0_146_ z0_147_ z0_148_ z0_149_ z0_150_ z0_151_ z0_152_ z0_153_ z0_154_ z0_155_ z0_156_ z0_157_ z0_158_ z0_159_ z0_160_ z0_161_ z0_162_ z0_163_ z0_164_ z0_165_ z0_166_ z0_167_ z0_168_ z0_169_ z0_170_ z0_171_ z0_172_ z0_173_ z0_174_ z0_175_ z0_176_ z0_177_ z0_178_ z0_179_ x20_28 HO_193002 HO_200002 HO_207002 HO_214002 HO_221002 BK181 BK182 BK192 BK199 BK206 BK213 BK220 HB kj28 HJ28 HC110 z0_180_ z0_181_ z0_182_ z0_183_ wc u24 u25 u26 u27 u28 u29 u30 u31 u32 u33 u34 u35 u36 u37 u38 u39 u40 u41 u42 u43 u44 u45 u46 u47 u48 u49 u50 u51 u52 u53 u54 u55 u56 u57 u58 u59 u60 u61 u62 u63 u64 u65 u66 u67 u68 u69 u70 u71 u72 u73 u74 u75 u76 u77 u78 u79 u80 u81 u82 u83 u84 u85 u86 u87 u88 u89 u90 u91 u92 u93 u94 u95 u96 u97 u98 u99 u100 u101 u102 u103 u104 u105 u106 u107 u108 u109 u110 u111 u112 u113 u114 u115 u116 u117 u118 u119 u120 u121 u122 u123 u124 u125 u126 u127 u128 u129 u130 u131 u132 u133 u134 u135 u136 u137 u138 u139 u140 u141 u142 u143 u144 u145 u146 u147 u148 u149 u150 u151 u152 u153 u154 u155 u156 u157 u158 u159 u160 u161 u162 u163 u164 u165 u166 u167 u168 u169 u170 u171 u172 u173 u174 u175 u176 u177 u178 u179 u180 u181 u182 u183 u184 u185 u186 u187 u188 u189 u190 u191 u192 u193 u194 hcut
 clear HC110
 try clear c1
 try clear c2
 try clear p2
 try clear q2
 try clear hx2
 try clear c3
 try clear c4
 try clear c5
 try clear c6
 try clear p6
 try clear c7
 try clear c8
 try clear c9
 try clear c10
 try clear c11
 try clear c12
 try clear c13
 try clear c14
 try clear c15
 try clear c16
 try clear c17
 try clear c18
 try clear c19
 try clear c20
 try clear c21
 try clear c22
 try clear p22
 try clear q22
 try clear hx22
 try clear c23
 try clear c24
 try clear c25
 try clear c26
 try clear c27
 try clear c28
 try clear c29
 try clear c30
 try clear c31
 try clear c43
 try clear c44
 try clear c45
 try clear c50
 try clear c51
 try clear c52
 try clear c53
 try clear c56
 try clear c57
 try clear c61
 try clear c62
 try clear c63
 try clear c64
 try clear p64
 try clear c65
 try clear c68
 try clear c72
 try clear c73
 try clear c74
 try clear c75
 try clear c76
 try clear c77
 try clear c83
 try clear c84
 try clear c84b0
 try clear c85
 try clear c86
 try clear c87
 try clear c88
 try clear c89
 try clear c90
 try clear c94
 try clear c95
 try clear c96
 try clear c97
 try clear c98
 try clear c99
 try clear c102
 try clear c103
 try clear c104
 try clear c105
 try clear c106
 try clear c107
 try clear c111
 try clear c111b0
 try clear c111b1
 try clear c113
 try clear c114
 try clear c114b0
 try clear c114b1
 try clear c116
 try clear c118
 try clear c118b0
 try clear c118b1
 try clear c119
 try clear c119b0
 try clear c119b1
 try clear c119b2
 try clear c120
 try clear c121
 try clear c122
 try clear c123
 try clear c124
 try clear c125
 try clear c127
 try clear c128
 try clear c129
 try clear c130
 try clear c131
 try clear c134
 try clear c135
 try clear c136
 try clear c137
 try clear c139
 try clear c140
 try clear c141
 try clear c144
 try clear c145
 try clear c148
 try clear c149
 try clear c149b0
 try clear c150
 try clear c150b0
 try clear c151
 try clear c151b0
 try clear c151b1
 try clear c152
 try clear c153
 try clear c154
 try clear c155
 try clear c156
 try clear c157
 try clear c159
 try clear c160
 try clear c161
 try clear c162
 try clear c163
 try clear c166
 try clear c167
 try clear c168
 try clear c169
 try clear c171
 try clear c172
 try clear c173
 try clear c176
 try clear c177
 try clear c180
 try clear c182
 try clear c183
 try clear c184
 try clear c185
 try clear c186
 try clear c187
 try clear c189
 try clear c190
 try clear c191
 try clear c192
 try clear c193
 try clear c196
 try clear c197
 try clear c198
 try clear c199
 try clear c201
 try clear c202
 try clear c203
 try clear c206
 try clear c207
 try clear c210
 try clear c212
 try clear c213
 try clear c214
 try clear c215
 try clear c216
 try clear c217
 try clear c219
 try clear c220
 try clear c221
 try clear c222
 try clear c223
 try clear c226
 try clear c227
 try clear p227
 try clear q227
 try clear hx227
 try clear c228
 try clear c229
 try clear c231
 try clear c232
 try clear c233
 try clear c236
 try clear c237
 try clear c240
 try clear c241
 try clear c242
 try clear c243
 try clear c244
 try clear c245
 try clear c247
 try clear c248
 try clear c249
 try clear c250
 try clear c251
 try clear c254
 try clear c255
 try clear c256
 try clear c257
 try clear c259
 try clear c260
 try clear c261
 try clear c264
 try clear c265
 try clear c268
 try clear c269
 try clear c270
 try clear c271
 try clear c272
 try clear c273
 try clear c275
 try clear c276
 try clear c277
 try clear c278
 try clear c279
 try clear c282
 try clear c283
 try clear c284
 try clear c285
 try clear c287
 try clear c288
 try clear c289
 try clear c292
 try clear c293
 try clear c294
 try clear c295
 try clear c296
 try clear c297
 try clear c299
 try clear c300
 try clear c301
 try clear c302
 try clear c303
 try clear c306
 try clear c307
 try clear c308
 try clear c309
 try clear c310
 try clear c311
 try clear c313
 try clear c314
 try clear c315
 try clear c316
 try clear c317
 try clear hcz100_0
 try clear hcz100_1
 try clear hcz100_2
 try clear hcz108_0
 try clear hcz108_1
 try clear hcz108_2
 try clear hcz126_0
 try clear hcz126_1
 try clear hcz126_2
 try clear hcz132_0
 try clear hcz132_1
 try clear hcz132_2
 try clear hcz138_0
 try clear hcz138_1
 try clear hcz138_2
 try clear hcz142_0
 try clear hcz142_1
 try clear hcz142_2
 try clear hcz146_0
 try clear hcz146_1
 try clear hcz146_2
 try clear hcz158_0
 try clear hcz158_1
 try clear hcz158_2
 try clear hcz164_0
 try clear hcz164_1
 try clear hcz164_2
 try clear hcz170_0
 try clear hcz170_1
 try clear hcz170_2
 try clear hcz174_0
 try clear hcz174_1
 try clear hcz174_2
 try clear hcz178_0
 try clear hcz178_1
 try clear hcz178_2
 try clear hcz181_0
 try clear hcz181_1
 try clear hcz181_2
 try clear hcz188_0
 try clear hcz188_1
 try clear hcz188_2
 try clear hcz194_0
 try clear hcz194_1
 try clear hcz194_2
 try clear hcz200_0
 try clear hcz200_1
 try clear hcz200_2
 try clear hcz204_0
 try clear hcz204_1
 try clear hcz204_2
 try clear hcz208_0
 try clear hcz208_1
 try clear hcz208_2
 try clear hcz20_0
 try clear hcz20_1
 try clear hcz20_2
 try clear hcz211_0
 try clear hcz211_1
 try clear hcz211_2
 try clear hcz218_0
 try clear hcz218_1
 try clear hcz218_2
 try clear hcz224_0
 try clear hcz224_1
 try clear hcz224_2
 try clear hcz230_0
 try clear hcz230_1
 try clear hcz230_2
 try clear hcz234_0
 try clear hcz234_1
 try clear hcz234_2
 try clear hcz238_0
 try clear hcz238_1
 try clear hcz238_2
 try clear hcz246_0
 try clear hcz246_1
 try clear hcz246_2
 try clear hcz252_0
 try clear hcz252_1
 try clear hcz252_2
 try clear hcz258_0
 try clear hcz258_1
 try clear hcz258_2
 try clear hcz262_0
 try clear hcz262_1
 try clear hcz262_2
 try clear hcz266_0
 try clear hcz266_1
 try clear hcz266_2
 try clear hcz274_0
 try clear hcz274_1
 try clear hcz274_2
 try clear hcz280_0
 try clear hcz280_1
 try clear hcz280_2
 try clear hcz286_0
 try clear hcz286_1
 try clear hcz286_2
 try clear hcz290_0
 try clear hcz290_1
 try clear hcz290_2
 try clear hcz298_0
 try clear hcz298_1
 try clear hcz298_2
 try clear hcz304_0
 try clear hcz304_1
 try clear hcz304_2
 try clear hcz312_0
 try clear hcz312_1
 try clear hcz312_2
 try clear hcz318_0
 try clear hcz318_1
 try clear hcz318_2
 try clear hcz46_0
 try clear hcz46_1
 try clear hcz46_2
 try clear hcz54_0
 try clear hcz54_1
 try clear hcz54_2
 try clear hcz58_0
 try clear hcz58_1
 try clear hcz58_2
 try clear hcz66_0
 try clear hcz66_1
 try clear hcz66_2
 try clear hcz69_0
 try clear hcz69_1
 try clear hcz69_2
 try clear hcz78_0
 try clear hcz78_1
 try clear hcz78_2
 try clear hcz80_0
 try clear hcz80_1
 try clear hcz80_2
 try clear hcz91_0
 try clear hcz91_1
 try clear hcz91_2
 try clear hcz93_0
 try clear hcz93_1
 try clear hcz93_2
 try clear hfz100_0
 try clear hfz100_1
 try clear hfz100_2
 try clear hfz108_0
 try clear hfz108_1
 try clear hfz108_2
 try clear hfz126_0
 try clear hfz126_1
 try clear hfz126_2
 try clear hfz132_0
 try clear hfz132_1
 try clear hfz132_2
 try clear hfz138_0
 try clear hfz138_1
 try clear hfz138_2
 try clear hfz142_0
 try clear hfz142_1
 try clear hfz142_2
 try clear hfz146_0
 try clear hfz146_1
 try clear hfz146_2
 try clear hfz14_0
 try clear hfz14_1
 try clear hfz14_2
 try clear hfz158_0
 try clear hfz158_1
 try clear hfz158_2
 try clear hfz164_0
 try clear hfz164_1
 try clear hfz164_2
 try clear hfz170_0
 try clear hfz170_1
 try clear hfz170_2
 try clear hfz174_0
 try clear hfz174_1
 try clear hfz174_2
 try clear hfz178_0
 try clear hfz178_1
 try clear hfz178_2
 try clear hfz181_0
 try clear hfz181_1
 try clear hfz181_2
 try clear hfz188_0
 try clear hfz188_1
 try clear hfz188_2
 try clear hfz18_0
 try clear hfz18_1
 try clear hfz18_2
 try clear hfz194_0
 try clear hfz194_1
 try clear hfz194_2
 try clear hfz200_0
 try clear hfz200_1
 try clear hfz200_2
 try clear hfz204_0
 try clear hfz204_1
 try clear hfz204_2
 try clear hfz208_0
 try clear hfz208_1
 try clear hfz208_2
 try clear hfz20_0
 try clear hfz20_1
 try clear hfz20_2
 try clear hfz211_0
 try clear hfz211_1
 try clear hfz211_2
 try clear hfz218_0
 try clear hfz218_1
 try clear hfz218_2
 try clear hfz224_0
 try clear hfz224_1
 try clear hfz224_2
 try clear hfz230_0
 try clear hfz230_1
 try clear hfz230_2
 try clear hfz234_0
 try clear hfz234_1
 try clear hfz234_2
 try clear hfz238_0
 try clear hfz238_1
 try clear hfz238_2
 try clear hfz246_0
 try clear hfz246_1
 try clear hfz246_2
 try clear hfz252_0
 try clear hfz252_1
 try clear hfz252_2
 try clear hfz258_0
 try clear hfz258_1
 try clear hfz258_2
 try clear hfz262_0
 try clear hfz262_1
 try clear hfz262_2
 try clear hfz266_0
 try clear hfz266_1
 try clear hfz266_2
 try clear hfz274_0
 try clear hfz274_1
 try clear hfz274_2
 try clear hfz280_0
 try clear hfz280_1
 try clear hfz280_2
 try clear hfz286_0
 try clear hfz286_1
 try clear hfz286_2
 try clear hfz290_0
 try clear hfz290_1
 try clear hfz290_2
 try clear hfz298_0
 try clear hfz298_1
 try clear hfz298_2
 try clear hfz304_0
 try clear hfz304_1
 try clear hfz304_2
 try clear hfz312_0
 try clear hfz312_1
 try clear hfz312_2
 try clear hfz318_0
 try clear hfz318_1
 try clear hfz318_2
 try clear hfz46_0
 try clear hfz46_1
 try clear hfz46_2
 try clear hfz54_0
 try clear hfz54_1
 try clear hfz54_2
 try clear hfz58_0
 try clear hfz58_1
 try clear hfz58_2
 try clear hfz66_0
 try clear hfz66_1
 try clear hfz66_2
 try clear hfz69_0
 try clear hfz69_1
 try clear hfz69_2
 try clear hfz78_0
 try clear hfz78_1
 try clear hfz78_2
 try clear hfz80_0
 try clear hfz80_1
 try clear hfz80_2
 try clear hfz91_0
 try clear hfz91_1
 try clear hfz91_2
 try clear hfz93_0
 try clear hfz93_1
 try clear hfz93_2
 try clear hx227_0
 try clear p2
 try clear p227
 try clear p6
 try clear p64
 try clear q227
 obtain ⟨kq, x138_109, rfl, HA, HJ109, HO_193002, HO_200002, HO_207002, HO_214002, HO_221002, BK181, BK182, BK192, BK199, BK206, BK213, BK220, HB⟩ := hcut
 cases kq with
 | zero => exact absurd HA.out (by simp [meterlaw17_TableTells.j2])
 | succ kj109 =>
  have H := HA.out
  clear HA
  simp only [meterlaw17_TableTells.j2] at H
  by_cases c320 : x138_109 = true
  · subst c320
    have H1 : (some false) = some r := by rw [if_pos rfl] at H; exact H
    clear H
    have H := H1
    clear H1
    exact absurd (H.trans (congrArg some HRT.out)) (by simp)
  replace c320 := Bool.eq_false_iff.mpr c320
  subst c320
  have H1 : ((table_Copy.f a0_0 a0_1 y189).bind fun bt228 => ((meterref17_Same.f kj109 bt228.1 bt228.2.1 bt228.2.2 a0_0 a0_1 l0_2).bind fun t234 => (if t234 = true then (meterlaw17_TableTells.l0 kj109 0 a0_0 a0_1 l0_2 a1_0 a1_1 l1_2 a0_0 a0_1 y189 t207 t208 t209 bt228.1 bt228.2.1 bt228.2.2) else (some false)))) = some r := by rw [if_neg (show ¬ (false = true) by decide)] at H; exact H
  clear H
  have H := H1
  clear H1
  replace H := Option.bind_eq_some_iff.mp H
  obtain ⟨⟨t228, t229, t230⟩, A3210, H⟩ := H
  replace H : ((meterref17_Same.f kj109 t228 t229 t230 a0_0 a0_1 l0_2).bind fun t234 => (if t234 = true then (meterlaw17_TableTells.l0 kj109 0 a0_0 a0_1 l0_2 a1_0 a1_1 l1_2 a0_0 a0_1 y189 t207 t208 t209 t228 t229 t230) else (some false))) = some r := H
  have A321 := Aside0.mk A3210
  clear A3210
  replace H := Option.bind_eq_some_iff.mp H
  obtain ⟨t234, A3220, H⟩ := H
  replace H : (if t234 = true then (meterlaw17_TableTells.l0 kj109 0 a0_0 a0_1 l0_2 a1_0 a1_1 l1_2 a0_0 a0_1 y189 t207 t208 t209 t228 t229 t230) else (some false)) = some r := H
  have A322 := Aside0.mk A3220
  clear A3220
  by_cases c323 : t234 = true
  · subst c323
    have H1 : (meterlaw17_TableTells.l0 kj109 0 a0_0 a0_1 l0_2 a1_0 a1_1 l1_2 a0_0 a0_1 y189 t207 t208 t209 t228 t229 t230) = some r := by rw [if_pos rfl] at H; exact H
    clear H
    have H := H1
    clear H1
    have H' := Aside0.mk H
    clear H
    have hnb324 := NB192_181.out
    have hnc324 := NB181_192.out
    have hnb325 := NB192_182.out
    have hnc325 := NB182_192.out
    have hnb326 := NB192_199.out
    have hnc326 := NB199_192.out
    have hnb327 := NB192_206.out
    have hnc327 := NB206_192.out
    have hnb328 := NB192_213.out
    have hnc328 := NB213_192.out
    have hnb329 := NB192_220.out
    have hnc329 := NB220_192.out
    have hcz330_0 : wc.cell? ⟨gb192, 0, none⟩ = some (.int .i64 a0_0) := (blk_cell BK192.out 0).trans rfl
    have hcz330_1 : wc.cell? ⟨gb192, 1, none⟩ = some (.int .i64 a0_1) := (blk_cell BK192.out 1).trans rfl
    have hcz330_2 : wc.cell? ⟨gb192, 2, none⟩ = some (.slice Ao37 y189.length co37) := (blk_cell BK192.out 2).trans rfl
    have hfz330_0 := blk_frozen BK192.out 0
    have hfz330_1 := blk_frozen BK192.out 1
    have hfz330_2 := blk_frozen BK192.out 2
    go_wp2_with (first | ((with_reducible refine gate_callee (f := 20) rfl ?_); refine goesL_ (some 140) rfl rfl Try.func20 (by kernel_rfl) rfl #[.agg #[.int .i64 a0_0, .int .i64 a0_1, .slice Ao37 y189.length co37]] rfl (by (try simp only [List.map_toArray, List.map_cons, List.map_nil]); first | done | rfl | (simp only [List.length_drop, List.length_take]; rfl)) ?_; (with_reducible refine (table_Copy.calls a0_0 a0_1 _ _ y189 t228 t229 t230 _ ?side1 ?side2 A321.out).mono ?_); (case side1 => repeat (first | exact (Kd.R_reads' HO_193002.out).2.2 | (with_reducible refine Kd.C_alloc ?_ _) | (with_reducible refine Kd.C_drewN ?_ _) | (with_reducible refine Kd.C_drew ?_))); (case side2 => exact (Kd.R_reads' HO_193002.out).2.1); rintro e w331 ⟨v231, rfl, ho0, hb⟩; refine ⟨_, rfl, ?_⟩; have n0_ := Aside0.mk (Kd.R_elder' (by (with_reducible repeat (first | apply Kd.R_alloc | apply Kd.R_drewN | apply Kd.R_drew)); exact HO_193002.out) (Kd.R_base ho0) hb); have n1_ := Aside0.mk (Kd.R_elder' (by (with_reducible repeat (first | apply Kd.R_alloc | apply Kd.R_drewN | apply Kd.R_drew)); exact HO_200002.out) (Kd.R_base ho0) hb); have n2_ := Aside0.mk (Kd.R_elder' (by (with_reducible repeat (first | apply Kd.R_alloc | apply Kd.R_drewN | apply Kd.R_drew)); exact HO_207002.out) (Kd.R_base ho0) hb); have n3_ := Aside0.mk (Kd.R_elder' (by (with_reducible repeat (first | apply Kd.R_alloc | apply Kd.R_drewN | apply Kd.R_drew)); exact HO_214002.out) (Kd.R_base ho0) hb); have n4_ := Aside0.mk (Kd.R_elder' (by (with_reducible repeat (first | apply Kd.R_alloc | apply Kd.R_drewN | apply Kd.R_drew)); exact HO_221002.out) (Kd.R_base ho0) hb); have n5_ := Aside0.mk (Kd.R_lower (Kd.R_new' (Kd.R_new' (Kd.R_new' (Kd.R_new' (Kd.R_new' ho0 (Kd.R_lt (by (with_reducible repeat (first | apply Kd.R_alloc | apply Kd.R_drewN | apply Kd.R_drew)); exact HO_193002.out))) (Kd.R_lt (by (with_reducible repeat (first | apply Kd.R_alloc | apply Kd.R_drewN | apply Kd.R_drew)); exact HO_200002.out))) (Kd.R_lt (by (with_reducible repeat (first | apply Kd.R_alloc | apply Kd.R_drewN | apply Kd.R_drew)); exact HO_207002.out))) (Kd.R_lt (by (with_reducible repeat (first | apply Kd.R_alloc | apply Kd.R_drewN | apply Kd.R_drew)); exact HO_214002.out))) (Kd.R_lt (by (with_reducible repeat (first | apply Kd.R_alloc | apply Kd.R_drewN | apply Kd.R_drew)); exact HO_221002.out))) (below_size (by repeat (first | (with_reducible first | exact HB.out | apply below_alloc | apply pw_below_drewN | apply below_drew1 | refine below_set ?_ GE181.out | refine below_set ?_ GE182.out | refine below_set ?_ GE192.out | refine below_set ?_ GE199.out | refine below_set ?_ GE206.out | refine below_set ?_ GE213.out | refine below_set ?_ GE220.out) | exact HB.out)))); have n6_ := Aside0.mk (blk_below (g := gb181) (o := .cells #[.int .i64 a0_0, .int .i64 a0_1, .slice A0_2 l0_2.length c0_2] 24 (0, 0)) (by (with_reducible repeat (first | refine blk_drewN ?_ _ | refine blk_drew ?_ | refine blk_alloc ?_ _)); exact BK181.out) hb); have n7_ := Aside0.mk (blk_below (g := gb182) (o := .cells #[.int .i64 a1_0, .int .i64 a1_1, .slice A1_2 l1_2.length c1_2] 24 (0, 0)) (by (with_reducible repeat (first | refine blk_drewN ?_ _ | refine blk_drew ?_ | refine blk_alloc ?_ _)); exact BK182.out) hb); have n8_ := Aside0.mk (blk_below (g := gb192) (o := .cells #[.int .i64 a0_0, .int .i64 a0_1, .slice Ao37 y189.length co37] 24 (0, 0)) (by (with_reducible repeat (first | refine blk_drewN ?_ _ | refine blk_drew ?_ | refine blk_alloc ?_ _)); exact BK192.out) hb); have n9_ := Aside0.mk (blk_below (g := gb199) (o := .cells #[.int .i64 t193, .int .i64 t194, .slice Ao47 t195.length co47] 24 (0, 0)) (by (with_reducible repeat (first | refine blk_drewN ?_ _ | refine blk_drew ?_ | refine blk_alloc ?_ _)); exact BK199.out) hb); have n10_ := Aside0.mk (blk_below (g := gb206) (o := .cells #[.int .i64 t200, .int .i64 t201, .slice Ao55 t202.length co55] 24 (0, 0)) (by (with_reducible repeat (first | refine blk_drewN ?_ _ | refine blk_drew ?_ | refine blk_alloc ?_ _)); exact BK206.out) hb); have n11_ := Aside0.mk (blk_below (g := gb213) (o := .cells #[.int .i64 t207, .int .i64 t208, .slice Ao67 t209.length co67] 24 (0, 0)) (by (with_reducible repeat (first | refine blk_drewN ?_ _ | refine blk_drew ?_ | refine blk_alloc ?_ _)); exact BK213.out) hb); have n12_ := Aside0.mk (blk_below (g := gb220) (o := .cells #[.int .i64 t214, .int .i64 t215, .slice Ao79 t216.length co79] 24 (0, 0)) (by (with_reducible repeat (first | refine blk_drewN ?_ _ | refine blk_drew ?_ | refine blk_alloc ?_ _)); exact BK220.out) hb); have n13_ := Aside0.mk (below_step (by repeat (first | (with_reducible first | exact HB.out | apply below_alloc | apply pw_below_drewN | apply below_drew1 | refine below_set ?_ GE181.out | refine below_set ?_ GE182.out | refine below_set ?_ GE192.out | refine below_set ?_ GE199.out | refine below_set ?_ GE206.out | refine below_set ?_ GE213.out | refine below_set ?_ GE220.out) | exact HB.out)) hb); clear HO_193002; clear HO_200002; clear HO_207002; clear HO_214002; clear HO_221002; clear BK181; clear BK182; clear BK192; clear BK199; clear BK206; clear BK213; clear BK220; clear HB; have HO_193002 := n0_; have HO_200002 := n1_; have HO_207002 := n2_; have HO_214002 := n3_; have HO_221002 := n4_; have HO232 := n5_; have BK181 := n6_; have BK182 := n7_; have BK192 := n8_; have BK199 := n9_; have BK206 := n10_; have BK213 := n11_; have BK220 := n12_; have HB := n13_; clear n0_ n1_ n2_ n3_ n4_ n5_ n6_ n7_ n8_ n9_ n10_ n11_ n12_ n13_; (try clear hb); (try clear hb2); (try clear hk); (try clear hi); (try clear ho0)) | ((with_reducible refine gate_dst (N := 21) rfl ?_); (try (refine gate_guard (by rfl) ?_; dsimp only)); refine box_event ?hg (N := 21) ?hd (cs := #[.int .i64 0, .int .i64 0, .slice none 0 0]) (t := 24) ?hr ?_; (case hd => rfl); (case hg => rfl); (case hr => first | (go_simp; done) | (go_simp; rfl)); intro gb233 hg w332 hbox hb; have n0_ := Aside0.mk (Kd.R_below (by (with_reducible repeat (first | apply Kd.R_alloc | apply Kd.R_drewN | apply Kd.R_drew)); exact HO_193002.out) hb); have n1_ := Aside0.mk (Kd.R_below (by (with_reducible repeat (first | apply Kd.R_alloc | apply Kd.R_drewN | apply Kd.R_drew)); exact HO_200002.out) hb); have n2_ := Aside0.mk (Kd.R_below (by (with_reducible repeat (first | apply Kd.R_alloc | apply Kd.R_drewN | apply Kd.R_drew)); exact HO_207002.out) hb); have n3_ := Aside0.mk (Kd.R_below (by (with_reducible repeat (first | apply Kd.R_alloc | apply Kd.R_drewN | apply Kd.R_drew)); exact HO_214002.out) hb); have n4_ := Aside0.mk (Kd.R_below (by (with_reducible repeat (first | apply Kd.R_alloc | apply Kd.R_drewN | apply Kd.R_drew)); exact HO_221002.out) hb); have n5_ := Aside0.mk (Kd.R_below (by (with_reducible repeat (first | apply Kd.R_alloc | apply Kd.R_drewN | apply Kd.R_drew)); exact HO232.out) hb); have n6_ := Aside0.mk (blk_below (g := gb181) (o := .cells #[.int .i64 a0_0, .int .i64 a0_1, .slice A0_2 l0_2.length c0_2] 24 (0, 0)) (by (with_reducible repeat (first | refine blk_drewN ?_ _ | refine blk_drew ?_ | refine blk_alloc ?_ _)); exact BK181.out) hb); have n7_ := Aside0.mk (blk_below (g := gb182) (o := .cells #[.int .i64 a1_0, .int .i64 a1_1, .slice A1_2 l1_2.length c1_2] 24 (0, 0)) (by (with_reducible repeat (first | refine blk_drewN ?_ _ | refine blk_drew ?_ | refine blk_alloc ?_ _)); exact BK182.out) hb); have n8_ := Aside0.mk (blk_below (g := gb192) (o := .cells #[.int .i64 a0_0, .int .i64 a0_1, .slice Ao37 y189.length co37] 24 (0, 0)) (by (with_reducible repeat (first | refine blk_drewN ?_ _ | refine blk_drew ?_ | refine blk_alloc ?_ _)); exact BK192.out) hb); have n9_ := Aside0.mk (blk_below (g := gb199) (o := .cells #[.int .i64 t193, .int .i64 t194, .slice Ao47 t195.length co47] 24 (0, 0)) (by (with_reducible repeat (first | refine blk_drewN ?_ _ | refine blk_drew ?_ | refine blk_alloc ?_ _)); exact BK199.out) hb); have n10_ := Aside0.mk (blk_below (g := gb206) (o := .cells #[.int .i64 t200, .int .i64 t201, .slice Ao55 t202.length co55] 24 (0, 0)) (by (with_reducible repeat (first | refine blk_drewN ?_ _ | refine blk_drew ?_ | refine blk_alloc ?_ _)); exact BK206.out) hb); have n11_ := Aside0.mk (blk_below (g := gb213) (o := .cells #[.int .i64 t207, .int .i64 t208, .slice Ao67 t209.length co67] 24 (0, 0)) (by (with_reducible repeat (first | refine blk_drewN ?_ _ | refine blk_drew ?_ | refine blk_alloc ?_ _)); exact BK213.out) hb); have n12_ := Aside0.mk (blk_below (g := gb220) (o := .cells #[.int .i64 t214, .int .i64 t215, .slice Ao79 t216.length co79] 24 (0, 0)) (by (with_reducible repeat (first | refine blk_drewN ?_ _ | refine blk_drew ?_ | refine blk_alloc ?_ _)); exact BK220.out) hb); have n13_ := Aside0.mk (below_step (by repeat (first | (with_reducible first | exact HB.out | apply below_alloc | apply pw_below_drewN | apply below_drew1 | refine below_set ?_ GE181.out | refine below_set ?_ GE182.out | refine below_set ?_ GE192.out | refine below_set ?_ GE199.out | refine below_set ?_ GE206.out | refine below_set ?_ GE213.out | refine below_set ?_ GE220.out) | exact HB.out)) hb); have n14_ := Aside0.mk (hbox); have n15_ := Aside0.mk ((by rw [hg]; exact (below_size (by repeat (first | (with_reducible first | exact HB.out | apply below_alloc | apply pw_below_drewN | apply below_drew1 | refine below_set ?_ GE181.out | refine below_set ?_ GE182.out | refine below_set ?_ GE192.out | refine below_set ?_ GE199.out | refine below_set ?_ GE206.out | refine below_set ?_ GE213.out | refine below_set ?_ GE220.out) | exact HB.out))) : w.heap.size ≤ gb233)); have n16_ := Aside0.mk ((by rw [hg]; exact (below_size (by repeat (first | (with_reducible first | exact HB.out | apply below_alloc | apply pw_below_drewN | apply below_drew1 | refine below_set ?_ GE181.out | refine below_set ?_ GE182.out | refine below_set ?_ GE192.out | refine below_set ?_ GE199.out | refine below_set ?_ GE206.out | refine below_set ?_ GE213.out | refine below_set ?_ GE220.out) | exact HB.out))) : w.heap.size ≤ gb233)); have n17_ := Aside0.mk ((by rw [hg]; exact Nat.ne_of_lt (blk_lt (g := gb181) (o := .cells #[.int .i64 a0_0, .int .i64 a0_1, .slice A0_2 l0_2.length c0_2] 24 (0, 0)) (by (with_reducible repeat (first | refine blk_drewN ?_ _ | refine blk_drew ?_ | refine blk_alloc ?_ _)); exact BK181.out)) : gb181 ≠ gb233)); have n18_ := Aside0.mk ((by rw [hg]; exact Nat.ne_of_gt (blk_lt (g := gb181) (o := .cells #[.int .i64 a0_0, .int .i64 a0_1, .slice A0_2 l0_2.length c0_2] 24 (0, 0)) (by (with_reducible repeat (first | refine blk_drewN ?_ _ | refine blk_drew ?_ | refine blk_alloc ?_ _)); exact BK181.out)) : gb233 ≠ gb181)); have n19_ := Aside0.mk ((by rw [hg]; exact Nat.ne_of_lt (blk_lt (g := gb182) (o := .cells #[.int .i64 a1_0, .int .i64 a1_1, .slice A1_2 l1_2.length c1_2] 24 (0, 0)) (by (with_reducible repeat (first | refine blk_drewN ?_ _ | refine blk_drew ?_ | refine blk_alloc ?_ _)); exact BK182.out)) : gb182 ≠ gb233)); have n20_ := Aside0.mk ((by rw [hg]; exact Nat.ne_of_gt (blk_lt (g := gb182) (o := .cells #[.int .i64 a1_0, .int .i64 a1_1, .slice A1_2 l1_2.length c1_2] 24 (0, 0)) (by (with_reducible repeat (first | refine blk_drewN ?_ _ | refine blk_drew ?_ | refine blk_alloc ?_ _)); exact BK182.out)) : gb233 ≠ gb182)); have n21_ := Aside0.mk ((by rw [hg]; exact Nat.ne_of_lt (blk_lt (g := gb192) (o := .cells #[.int .i64 a0_0, .int .i64 a0_1, .slice Ao37 y189.length co37] 24 (0, 0)) (by (with_reducible repeat (first | refine blk_drewN ?_ _ | refine blk_drew ?_ | refine blk_alloc ?_ _)); exact BK192.out)) : gb192 ≠ gb233)); have n22_ := Aside0.mk ((by rw [hg]; exact Nat.ne_of_gt (blk_lt (g := gb192) (o := .cells #[.int .i64 a0_0, .int .i64 a0_1, .slice Ao37 y189.length co37] 24 (0, 0)) (by (with_reducible repeat (first | refine blk_drewN ?_ _ | refine blk_drew ?_ | refine blk_alloc ?_ _)); exact BK192.out)) : gb233 ≠ gb192)); have n23_ := Aside0.mk ((by rw [hg]; exact Nat.ne_of_lt (blk_lt (g := gb199) (o := .cells #[.int .i64 t193, .int .i64 t194, .slice Ao47 t195.length co47] 24 (0, 0)) (by (with_reducible repeat (first | refine blk_drewN ?_ _ | refine blk_drew ?_ | refine blk_alloc ?_ _)); exact BK199.out)) : gb199 ≠ gb233)); have n24_ := Aside0.mk ((by rw [hg]; exact Nat.ne_of_gt (blk_lt (g := gb199) (o := .cells #[.int .i64 t193, .int .i64 t194, .slice Ao47 t195.length co47] 24 (0, 0)) (by (with_reducible repeat (first | refine blk_drewN ?_ _ | refine blk_drew ?_ | refine blk_alloc ?_ _)); exact BK199.out)) : gb233 ≠ gb199)); have n25_ := Aside0.mk ((by rw [hg]; exact Nat.ne_of_lt (blk_lt (g := gb206) (o := .cells #[.int .i64 t200, .int .i64 t201, .slice Ao55 t202.length co55] 24 (0, 0)) (by (with_reducible repeat (first | refine blk_drewN ?_ _ | refine blk_drew ?_ | refine blk_alloc ?_ _)); exact BK206.out)) : gb206 ≠ gb233)); have n26_ := Aside0.mk ((by rw [hg]; exact Nat.ne_of_gt (blk_lt (g := gb206) (o := .cells #[.int .i64 t200, .int .i64 t201, .slice Ao55 t202.length co55] 24 (0, 0)) (by (with_reducible repeat (first | refine blk_drewN ?_ _ | refine blk_drew ?_ | refine blk_alloc ?_ _)); exact BK206.out)) : gb233 ≠ gb206)); have n27_ := Aside0.mk ((by rw [hg]; exact Nat.ne_of_lt (blk_lt (g := gb213) (o := .cells #[.int .i64 t207, .int .i64 t208, .slice Ao67 t209.length co67] 24 (0, 0)) (by (with_reducible repeat (first | refine blk_drewN ?_ _ | refine blk_drew ?_ | refine blk_alloc ?_ _)); exact BK213.out)) : gb213 ≠ gb233)); have n28_ := Aside0.mk ((by rw [hg]; exact Nat.ne_of_gt (blk_lt (g := gb213) (o := .cells #[.int .i64 t207, .int .i64 t208, .slice Ao67 t209.length co67] 24 (0, 0)) (by (with_reducible repeat (first | refine blk_drewN ?_ _ | refine blk_drew ?_ | refine blk_alloc ?_ _)); exact BK213.out)) : gb233 ≠ gb213)); have n29_ := Aside0.mk ((by rw [hg]; exact Nat.ne_of_lt (blk_lt (g := gb220) (o := .cells #[.int .i64 t214, .int .i64 t215, .slice Ao79 t216.length co79] 24 (0, 0)) (by (with_reducible repeat (first | refine blk_drewN ?_ _ | refine blk_drew ?_ | refine blk_alloc ?_ _)); exact BK220.out)) : gb220 ≠ gb233)); have n30_ := Aside0.mk ((by rw [hg]; exact Nat.ne_of_gt (blk_lt (g := gb220) (o := .cells #[.int .i64 t214, .int .i64 t215, .slice Ao79 t216.length co79] 24 (0, 0)) (by (with_reducible repeat (first | refine blk_drewN ?_ _ | refine blk_drew ?_ | refine blk_alloc ?_ _)); exact BK220.out)) : gb233 ≠ gb220)); clear HO_193002; clear HO_200002; clear HO_207002; clear HO_214002; clear HO_221002; clear HO232; clear BK181; clear BK182; clear BK192; clear BK199; clear BK206; clear BK213; clear BK220; clear HB; have HO_193002 := n0_; have HO_200002 := n1_; have HO_207002 := n2_; have HO_214002 := n3_; have HO_221002 := n4_; have HO232 := n5_; have BK181 := n6_; have BK182 := n7_; have BK192 := n8_; have BK199 := n9_; have BK206 := n10_; have BK213 := n11_; have BK220 := n12_; have HB := n13_; have BK233 := n14_; have GW233 := n15_; have GE233 := n16_; have NB181_233 := n17_; have NB233_181 := n18_; have NB182_233 := n19_; have NB233_182 := n20_; have NB192_233 := n21_; have NB233_192 := n22_; have NB199_233 := n23_; have NB233_199 := n24_; have NB206_233 := n25_; have NB233_206 := n26_; have NB213_233 := n27_; have NB233_213 := n28_; have NB220_233 := n29_; have NB233_220 := n30_; clear n0_ n1_ n2_ n3_ n4_ n5_ n6_ n7_ n8_ n9_ n10_ n11_ n12_ n13_ n14_ n15_ n16_ n17_ n18_ n19_ n20_ n21_ n22_ n23_ n24_ n25_ n26_ n27_ n28_ n29_ n30_; clear hb hbox hg; have hnb333 := NB233_181.out; have hnc333 := NB181_233.out; have hnb334 := NB233_182.out; have hnc334 := NB182_233.out; have hnb335 := NB233_192.out; have hnc335 := NB192_233.out; have hnb336 := NB233_199.out; have hnc336 := NB199_233.out; have hnb337 := NB233_206.out; have hnc337 := NB206_233.out; have hnb338 := NB233_213.out; have hnc338 := NB213_233.out; have hnb339 := NB233_220.out; have hnc339 := NB220_233.out; have hcz340_0 : w332.cell? ⟨gb233, 0, none⟩ = some (.int .i64 0) := (blk_cell BK233.out 0).trans rfl; have hcz340_1 : w332.cell? ⟨gb233, 1, none⟩ = some (.int .i64 0) := (blk_cell BK233.out 1).trans rfl; have hcz340_2 : w332.cell? ⟨gb233, 2, none⟩ = some (.slice none 0 0) := (blk_cell BK233.out 2).trans rfl; have hfz340_0 := blk_frozen BK233.out 0; have hfz340_1 := blk_frozen BK233.out 1; have hfz340_2 := blk_frozen BK233.out 2; obtain ⟨Ao341, co341, eo341⟩ := Kd.R_slice HO232.out; subst eo341; have hnb342 := NB181_182.out; have hnc342 := NB182_181.out; have hnb343 := NB181_199.out; have hnc343 := NB199_181.out; have hnb344 := NB181_206.out; have hnc344 := NB206_181.out; have hnb345 := NB181_213.out; have hnc345 := NB213_181.out; have hnb346 := NB181_220.out; have hnc346 := NB220_181.out; have hcz347_0 : w332.cell? ⟨gb181, 0, none⟩ = some (.int .i64 a0_0) := (blk_cell BK181.out 0).trans rfl; have hcz347_1 : w332.cell? ⟨gb181, 1, none⟩ = some (.int .i64 a0_1) := (blk_cell BK181.out 1).trans rfl; have hcz347_2 : w332.cell? ⟨gb181, 2, none⟩ = some (.slice A0_2 l0_2.length c0_2) := (blk_cell BK181.out 2).trans rfl; have hfz347_0 := blk_frozen BK181.out 0; have hfz347_1 := blk_frozen BK181.out 1; have hfz347_2 := blk_frozen BK181.out 2) | ((with_reducible refine gate_callee (f := 15) rfl ?_); refine goesL_ (some 143) rfl rfl Try.func15 (by kernel_rfl) rfl #[.agg #[.int .i64 t228, .int .i64 t229, .slice Ao341 t230.length co341], .agg #[.int .i64 a0_0, .int .i64 a0_1, .slice A0_2 l0_2.length c0_2]] rfl (by (try simp only [List.map_toArray, List.map_cons, List.map_nil]); first | done | rfl | (simp only [List.length_drop, List.length_take]; rfl)) ?_; (with_reducible refine (meterref17_Same.calls kj109 t228 t229 _ _ t230 a0_0 a0_1 _ _ l0_2 true _ ?side1 ?side2 ?side3 ?side4 A322.out).mono ?_); (case side1 => refine (Kd.R_reads' (e := 3) (base := w.heap.size) (ok := fun k_ => (((((True ∧ some k_ ≠ (.slice Ao37 y189.length co37 : Value).ownBlock) ∧ some k_ ≠ (.slice Ao47 t195.length co47 : Value).ownBlock) ∧ some k_ ≠ (.slice Ao55 t202.length co55 : Value).ownBlock) ∧ some k_ ≠ (.slice Ao67 t209.length co67 : Value).ownBlock) ∧ some k_ ≠ (.slice Ao79 t216.length co79 : Value).ownBlock)) (n := t230.length) (c := co341) ?_).2.2; exact (by (with_reducible repeat (first | apply Kd.R_alloc | apply Kd.R_drewN | apply Kd.R_drew)); exact (Kd.R_mono (Kd.R_far (p := ⟨gb233, 2, none⟩) (Kd.R_far (p := ⟨gb233, 1, none⟩) (Kd.R_far (p := ⟨gb233, 0, none⟩) (Kd.R_types HO232.out BK233.out (by decide)) (fun _ hk => hk.2) (.int .i64 t228)) (fun _ hk => hk.2) (.int .i64 t229)) (fun _ hk => hk.2) (.slice Ao341 t230.length co341)) (fun _ h_ => h_.1)))); (case side2 => exact (Kd.R_reads' HO232.out).2.1); (case side3 => exact Kd.C_below HR0_2.out (by repeat (first | (with_reducible first | exact HB.out | apply below_alloc | apply pw_below_drewN | apply below_drew1 | refine below_set ?_ GE181.out | refine below_set ?_ GE182.out | refine below_set ?_ GE192.out | refine below_set ?_ GE199.out | refine below_set ?_ GE206.out | refine below_set ?_ GE213.out | refine below_set ?_ GE220.out | refine below_set ?_ GE233.out) | exact HB.out))); (case side4 => exact HC0_2.out); rintro e w348 ⟨rfl, hb⟩; refine ⟨_, rfl, ?_⟩; have n0_ := Aside0.mk (Kd.R_below (by (with_reducible repeat (first | apply Kd.R_alloc | apply Kd.R_drewN | apply Kd.R_drew)); exact (Kd.R_mono (Kd.R_far (p := ⟨gb233, 2, none⟩) (Kd.R_far (p := ⟨gb233, 1, none⟩) (Kd.R_far (p := ⟨gb233, 0, none⟩) (Kd.R_types HO_193002.out BK233.out (by decide)) (fun _ hk => hk.2) (.int .i64 t228)) (fun _ hk => hk.2) (.int .i64 t229)) (fun _ hk => hk.2) (.slice Ao341 t230.length co341)) (fun _ h_ => h_.1))) hb); have n1_ := Aside0.mk (Kd.R_below (by (with_reducible repeat (first | apply Kd.R_alloc | apply Kd.R_drewN | apply Kd.R_drew)); exact (Kd.R_mono (Kd.R_far (p := ⟨gb233, 2, none⟩) (Kd.R_far (p := ⟨gb233, 1, none⟩) (Kd.R_far (p := ⟨gb233, 0, none⟩) (Kd.R_types HO_200002.out BK233.out (by decide)) (fun _ hk => hk.2) (.int .i64 t228)) (fun _ hk => hk.2) (.int .i64 t229)) (fun _ hk => hk.2) (.slice Ao341 t230.length co341)) (fun _ h_ => h_.1))) hb); have n2_ := Aside0.mk (Kd.R_below (by (with_reducible repeat (first | apply Kd.R_alloc | apply Kd.R_drewN | apply Kd.R_drew)); exact (Kd.R_mono (Kd.R_far (p := ⟨gb233, 2, none⟩) (Kd.R_far (p := ⟨gb233, 1, none⟩) (Kd.R_far (p := ⟨gb233, 0, none⟩) (Kd.R_types HO_207002.out BK233.out (by decide)) (fun _ hk => hk.2) (.int .i64 t228)) (fun _ hk => hk.2) (.int .i64 t229)) (fun _ hk => hk.2) (.slice Ao341 t230.length co341)) (fun _ h_ => h_.1))) hb); have n3_ := Aside0.mk (Kd.R_below (by (with_reducible repeat (first | apply Kd.R_alloc | apply Kd.R_drewN | apply Kd.R_drew)); exact (Kd.R_mono (Kd.R_far (p := ⟨gb233, 2, none⟩) (Kd.R_far (p := ⟨gb233, 1, none⟩) (Kd.R_far (p := ⟨gb233, 0, none⟩) (Kd.R_types HO_214002.out BK233.out (by decide)) (fun _ hk => hk.2) (.int .i64 t228)) (fun _ hk => hk.2) (.int .i64 t229)) (fun _ hk => hk.2) (.slice Ao341 t230.length co341)) (fun _ h_ => h_.1))) hb); have n4_ := Aside0.mk (Kd.R_below (by (with_reducible repeat (first | apply Kd.R_alloc | apply Kd.R_drewN | apply Kd.R_drew)); exact (Kd.R_mono (Kd.R_far (p := ⟨gb233, 2, none⟩) (Kd.R_far (p := ⟨gb233, 1, none⟩) (Kd.R_far (p := ⟨gb233, 0, none⟩) (Kd.R_types HO_221002.out BK233.out (by decide)) (fun _ hk => hk.2) (.int .i64 t228)) (fun _ hk => hk.2) (.int .i64 t229)) (fun _ hk => hk.2) (.slice Ao341 t230.length co341)) (fun _ h_ => h_.1))) hb); have n5_ := Aside0.mk (Kd.R_below (by (with_reducible repeat (first | apply Kd.R_alloc | apply Kd.R_drewN | apply Kd.R_drew)); exact (Kd.R_mono (Kd.R_far (p := ⟨gb233, 2, none⟩) (Kd.R_far (p := ⟨gb233, 1, none⟩) (Kd.R_far (p := ⟨gb233, 0, none⟩) (Kd.R_types HO232.out BK233.out (by decide)) (fun _ hk => hk.2) (.int .i64 t228)) (fun _ hk => hk.2) (.int .i64 t229)) (fun _ hk => hk.2) (.slice Ao341 t230.length co341)) (fun _ h_ => h_.1))) hb); have n6_ := Aside0.mk (blk_below (g := gb181) (o := .cells #[.int .i64 a0_0, .int .i64 a0_1, .slice A0_2 l0_2.length c0_2] 24 (0, 0)) (by (with_reducible repeat (first | refine blk_drewN ?_ _ | refine blk_drew ?_ | refine blk_alloc ?_ _)); refine blk_far ?_ NB181_233.out _; (with_reducible repeat (first | refine blk_drewN ?_ _ | refine blk_drew ?_ | refine blk_alloc ?_ _)); refine blk_far ?_ NB181_233.out _; (with_reducible repeat (first | refine blk_drewN ?_ _ | refine blk_drew ?_ | refine blk_alloc ?_ _)); refine blk_far ?_ NB181_233.out _; (with_reducible repeat (first | refine blk_drewN ?_ _ | refine blk_drew ?_ | refine blk_alloc ?_ _)); exact BK181.out) hb); have n7_ := Aside0.mk (blk_below (g := gb182) (o := .cells #[.int .i64 a1_0, .int .i64 a1_1, .slice A1_2 l1_2.length c1_2] 24 (0, 0)) (by (with_reducible repeat (first | refine blk_drewN ?_ _ | refine blk_drew ?_ | refine blk_alloc ?_ _)); refine blk_far ?_ NB182_233.out _; (with_reducible repeat (first | refine blk_drewN ?_ _ | refine blk_drew ?_ | refine blk_alloc ?_ _)); refine blk_far ?_ NB182_233.out _; (with_reducible repeat (first | refine blk_drewN ?_ _ | refine blk_drew ?_ | refine blk_alloc ?_ _)); refine blk_far ?_ NB182_233.out _; (with_reducible repeat (first | refine blk_drewN ?_ _ | refine blk_drew ?_ | refine blk_alloc ?_ _)); exact BK182.out) hb); have n8_ := Aside0.mk (blk_below (g := gb192) (o := .cells #[.int .i64 a0_0, .int .i64 a0_1, .slice Ao37 y189.length co37] 24 (0, 0)) (by (with_reducible repeat (first | refine blk_drewN ?_ _ | refine blk_drew ?_ | refine blk_alloc ?_ _)); refine blk_far ?_ NB192_233.out _; (with_reducible repeat (first | refine blk_drewN ?_ _ | refine blk_drew ?_ | refine blk_alloc ?_ _)); refine blk_far ?_ NB192_233.out _; (with_reducible repeat (first | refine blk_drewN ?_ _ | refine blk_drew ?_ | refine blk_alloc ?_ _)); refine blk_far ?_ NB192_233.out _; (with_reducible repeat (first | refine blk_drewN ?_ _ | refine blk_drew ?_ | refine blk_alloc ?_ _)); exact BK192.out) hb); have n9_ := Aside0.mk (blk_below (g := gb199) (o := .cells #[.int .i64 t193, .int .i64 t194, .slice Ao47 t195.length co47] 24 (0, 0)) (by (with_reducible repeat (first | refine blk_drewN ?_ _ | refine blk_drew ?_ | refine blk_alloc ?_ _)); refine blk_far ?_ NB199_233.out _; (with_reducible repeat (first | refine blk_drewN ?_ _ | refine blk_drew ?_ | refine blk_alloc ?_ _)); refine blk_far ?_ NB199_233.out _; (with_reducible repeat (first | refine blk_drewN ?_ _ | refine blk_drew ?_ | refine blk_alloc ?_ _)); refine blk_far ?_ NB199_233.out _; (with_reducible repeat (first | refine blk_drewN ?_ _ | refine blk_drew ?_ | refine blk_alloc ?_ _)); exact BK199.out) hb); have n10_ := Aside0.mk (blk_below (g := gb206) (o := .cells #[.int .i64 t200, .int .i64 t201, .slice Ao55 t202.length co55] 24 (0, 0)) (by (with_reducible repeat (first | refine blk_drewN ?_ _ | refine blk_drew ?_ | refine blk_alloc ?_ _)); refine blk_far ?_ NB206_233.out _; (with_reducible repeat (first | refine blk_drewN ?_ _ | refine blk_drew ?_ | refine blk_alloc ?_ _)); refine blk_far ?_ NB206_233.out _; (with_reducible repeat (first | refine blk_drewN ?_ _ | refine blk_drew ?_ | refine blk_alloc ?_ _)); refine blk_far ?_ NB206_233.out _; (with_reducible repeat (first | refine blk_drewN ?_ _ | refine blk_drew ?_ | refine blk_alloc ?_ _)); exact BK206.out) hb); have n11_ := Aside0.mk (blk_below (g := gb213) (o := .cells #[.int .i64 t207, .int .i64 t208, .slice Ao67 t209.length co67] 24 (0, 0)) (by (with_reducible repeat (first | refine blk_drewN ?_ _ | refine blk_drew ?_ | refine blk_alloc ?_ _)); refine blk_far ?_ NB213_233.out _; (with_reducible repeat (first | refine blk_drewN ?_ _ | refine blk_drew ?_ | refine blk_alloc ?_ _)); refine blk_far ?_ NB213_233.out _; (with_reducible repeat (first | refine blk_drewN ?_ _ | refine blk_drew ?_ | refine blk_alloc ?_ _)); refine blk_far ?_ NB213_233.out _; (with_reducible repeat (first | refine blk_drewN ?_ _ | refine blk_drew ?_ | refine blk_alloc ?_ _)); exact BK213.out) hb); have n12_ := Aside0.mk (blk_below (g := gb220) (o := .cells #[.int .i64 t214, .int .i64 t215, .slice Ao79 t216.length co79] 24 (0, 0)) (by (with_reducible repeat (first | refine blk_drewN ?_ _ | refine blk_drew ?_ | refine blk_alloc ?_ _)); refine blk_far ?_ NB220_233.out _; (with_reducible repeat (first | refine blk_drewN ?_ _ | refine blk_drew ?_ | refine blk_alloc ?_ _)); refine blk_far ?_ NB220_233.out _; (with_reducible repeat (first | refine blk_drewN ?_ _ | refine blk_drew ?_ | refine blk_alloc ?_ _)); refine blk_far ?_ NB220_233.out _; (with_reducible repeat (first | refine blk_drewN ?_ _ | refine blk_drew ?_ | refine blk_alloc ?_ _)); exact BK220.out) hb); have n13_ := Aside0.mk (blk_below (g := gb233) (o := .cells #[.int .i64 t228, .int .i64 t229, .slice Ao341 t230.length co341] 24 (0, 0)) (by (with_reducible repeat (first | refine blk_drewN ?_ _ | refine blk_drew ?_ | refine blk_alloc ?_ _)); refine blk_put (cs := #[.int .i64 t228, .int .i64 t229, .slice none 0 0]) ?_ 2 _ rfl; (with_reducible repeat (first | refine blk_drewN ?_ _ | refine blk_drew ?_ | refine blk_alloc ?_ _)); refine blk_put (cs := #[.int .i64 t228, .int .i64 0, .slice none 0 0]) ?_ 1 _ rfl; (with_reducible repeat (first | refine blk_drewN ?_ _ | refine blk_drew ?_ | refine blk_alloc ?_ _)); refine blk_put (cs := #[.int .i64 0, .int .i64 0, .slice none 0 0]) ?_ 0 _ rfl; (with_reducible repeat (first | refine blk_drewN ?_ _ | refine blk_drew ?_ | refine blk_alloc ?_ _)); exact BK233.out) hb); have n14_ := Aside0.mk (below_step (by repeat (first | (with_reducible first | exact HB.out | apply below_alloc | apply pw_below_drewN | apply below_drew1 | refine below_set ?_ GE181.out | refine below_set ?_ GE182.out | refine below_set ?_ GE192.out | refine below_set ?_ GE199.out | refine below_set ?_ GE206.out | refine below_set ?_ GE213.out | refine below_set ?_ GE220.out | refine below_set ?_ GE233.out) | exact HB.out)) hb); clear HO_193002; clear HO_200002; clear HO_207002; clear HO_214002; clear HO_221002; clear HO232; clear BK181; clear BK182; clear BK192; clear BK199; clear BK206; clear BK213; clear BK220; clear BK233; clear HB; have HO_193002 := n0_; have HO_200002 := n1_; have HO_207002 := n2_; have HO_214002 := n3_; have HO_221002 := n4_; have HO232 := n5_; have BK181 := n6_; have BK182 := n7_; have BK192 := n8_; have BK199 := n9_; have BK206 := n10_; have BK213 := n11_; have BK220 := n12_; have BK233 := n13_; have HB := n14_; clear n0_ n1_ n2_ n3_ n4_ n5_ n6_ n7_ n8_ n9_ n10_ n11_ n12_ n13_ n14_; (try clear hb); (try clear hb2); (try clear hk); (try clear hi)))
    go_loopg [22] kj109 (fun kq v22 w' => ∃ (x22_4 : Int) (x193002_4 : List Int) (x200002_4 : List Int) (x207002_4 : List Int) (x214002_4 : List Int) (x221002_4 : List Int) (x234002_4 : List Int) (u193002 : Value) (u200002 : Value) (u207002 : Value) (u214002 : Value) (u221002 : Value) (u234002 : Value), v22 = .int .i64 x22_4 ∧ Aside0 (meterlaw17_TableTells.l0 kq x22_4 a0_0 a0_1 l0_2 a1_0 a1_1 l1_2 a0_0 a0_1 x193002_4 t207 t208 x214002_4 t228 t229 x234002_4 = some r) ∧ Aside0 (kq ≤ kj109) ∧ Aside0 (Kd.R (Kd.int .i64) 3 w' w.heap.size (fun k_ => some k_ ≠ (u200002 : Value).ownBlock ∧ some k_ ≠ (u207002 : Value).ownBlock ∧ some k_ ≠ (u214002 : Value).ownBlock ∧ some k_ ≠ (u221002 : Value).ownBlock ∧ some k_ ≠ (u234002 : Value).ownBlock) u193002 x193002_4) ∧ Aside0 (Kd.R (Kd.int .i64) 3 w' w.heap.size (fun k_ => some k_ ≠ (u193002 : Value).ownBlock ∧ some k_ ≠ (u207002 : Value).ownBlock ∧ some k_ ≠ (u214002 : Value).ownBlock ∧ some k_ ≠ (u221002 : Value).ownBlock ∧ some k_ ≠ (u234002 : Value).ownBlock) u200002 x200002_4) ∧ Aside0 (Kd.R (Kd.int .i64) 3 w' w.heap.size (fun k_ => some k_ ≠ (u193002 : Value).ownBlock ∧ some k_ ≠ (u200002 : Value).ownBlock ∧ some k_ ≠ (u214002 : Value).ownBlock ∧ some k_ ≠ (u221002 : Value).ownBlock ∧ some k_ ≠ (u234002 : Value).ownBlock) u207002 x207002_4) ∧ Aside0 (Kd.R (Kd.int .i64) 3 w' w.heap.size (fun k_ => some k_ ≠ (u193002 : Value).ownBlock ∧ some k_ ≠ (u200002 : Value).ownBlock ∧ some k_ ≠ (u207002 : Value).ownBlock ∧ some k_ ≠ (u221002 : Value).ownBlock ∧ some k_ ≠ (u234002 : Value).ownBlock) u214002 x214002_4) ∧ Aside0 (Kd.R (Kd.int .i64) 3 w' w.heap.size (fun k_ => some k_ ≠ (u193002 : Value).ownBlock ∧ some k_ ≠ (u200002 : Value).ownBlock ∧ some k_ ≠ (u207002 : Value).ownBlock ∧ some k_ ≠ (u214002 : Value).ownBlock ∧ some k_ ≠ (u234002 : Value).ownBlock) u221002 x221002_4) ∧ Aside0 (Kd.R (Kd.int .i64) 3 w' w.heap.size (fun k_ => some k_ ≠ (u193002 : Value).ownBlock ∧ some k_ ≠ (u200002 : Value).ownBlock ∧ some k_ ≠ (u207002 : Value).ownBlock ∧ some k_ ≠ (u214002 : Value).ownBlock ∧ some k_ ≠ (u221002 : Value).ownBlock) u234002 x234002_4) ∧ Aside0 (w'.heap[gb181]? = some (.cells #[.int .i64 a0_0, .int .i64 a0_1, (.slice A0_2 l0_2.length c0_2)] 24 (0, 0))) ∧ Aside0 (w'.heap[gb182]? = some (.cells #[.int .i64 a1_0, .int .i64 a1_1, (.slice A1_2 l1_2.length c1_2)] 24 (0, 0))) ∧ Aside0 (w'.heap[gb192]? = some (.cells #[.int .i64 a0_0, .int .i64 a0_1, u193002] 24 (0, 0))) ∧ Aside0 (w'.heap[gb199]? = some (.cells #[.int .i64 t193, .int .i64 t194, u200002] 24 (0, 0))) ∧ Aside0 (w'.heap[gb206]? = some (.cells #[.int .i64 t200, .int .i64 t201, u207002] 24 (0, 0))) ∧ Aside0 (w'.heap[gb213]? = some (.cells #[.int .i64 t207, .int .i64 t208, u214002] 24 (0, 0))) ∧ Aside0 (w'.heap[gb220]? = some (.cells #[.int .i64 t214, .int .i64 t215, u221002] 24 (0, 0))) ∧ Aside0 (w'.heap[gb233]? = some (.cells #[.int .i64 t228, .int .i64 t229, u234002] 24 (0, 0))) ∧ Aside0 (Below w.heap.size w w'))
    case atStart => exact ⟨(0), (y189), (t195), (t202), (t209), (t216), (t230), (.slice Ao37 y189.length co37), (.slice Ao47 t195.length co47), (.slice Ao55 t202.length co55), (.slice Ao67 t209.length co67), (.slice Ao79 t216.length co79), (.slice Ao341 t230.length co341), (by first | rfl | (simp; done) | (simp [*]; done) | (congr 1; simp only [eq_iff_iff, iff_true, ByteArray.size_append] at *; unfold wrap64; omega) | (congr 2; simp only [eq_iff_iff, iff_true, ByteArray.size_append] at *; unfold wrap64; omega)), H', ⟨Nat.le_refl _⟩, ⟨by (with_reducible repeat (first | apply Kd.R_alloc | apply Kd.R_drewN | apply Kd.R_drew)); exact Kd.R_mono HO_193002.out (fun _ hk => ⟨hk.1.1, ⟨hk.1.2.1, ⟨hk.1.2.2.1, ⟨hk.1.2.2.2, hk.2⟩⟩⟩⟩)⟩, ⟨by (with_reducible repeat (first | apply Kd.R_alloc | apply Kd.R_drewN | apply Kd.R_drew)); exact Kd.R_mono HO_200002.out (fun _ hk => ⟨hk.1.1, ⟨hk.1.2.1, ⟨hk.1.2.2.1, ⟨hk.1.2.2.2, hk.2⟩⟩⟩⟩)⟩, ⟨by (with_reducible repeat (first | apply Kd.R_alloc | apply Kd.R_drewN | apply Kd.R_drew)); exact Kd.R_mono HO_207002.out (fun _ hk => ⟨hk.1.1, ⟨hk.1.2.1, ⟨hk.1.2.2.1, ⟨hk.1.2.2.2, hk.2⟩⟩⟩⟩)⟩, ⟨by (with_reducible repeat (first | apply Kd.R_alloc | apply Kd.R_drewN | apply Kd.R_drew)); exact Kd.R_mono HO_214002.out (fun _ hk => ⟨hk.1.1, ⟨hk.1.2.1, ⟨hk.1.2.2.1, ⟨hk.1.2.2.2, hk.2⟩⟩⟩⟩)⟩, ⟨by (with_reducible repeat (first | apply Kd.R_alloc | apply Kd.R_drewN | apply Kd.R_drew)); exact Kd.R_mono HO_221002.out (fun _ hk => ⟨hk.1.1, ⟨hk.1.2.1, ⟨hk.1.2.2.1, ⟨hk.1.2.2.2, hk.2⟩⟩⟩⟩)⟩, ⟨by (with_reducible repeat (first | apply Kd.R_alloc | apply Kd.R_drewN | apply Kd.R_drew)); exact Kd.R_mono HO232.out (fun _ hk => ⟨hk.1.1.1.1.2, ⟨hk.1.1.1.2, ⟨hk.1.1.2, ⟨hk.1.2, hk.2⟩⟩⟩⟩)⟩, ⟨by (with_reducible repeat (first | refine blk_drewN ?_ _ | refine blk_drew ?_ | refine blk_alloc ?_ _)); exact BK181.out⟩, ⟨by (with_reducible repeat (first | refine blk_drewN ?_ _ | refine blk_drew ?_ | refine blk_alloc ?_ _)); exact BK182.out⟩, ⟨by (with_reducible repeat (first | refine blk_drewN ?_ _ | refine blk_drew ?_ | refine blk_alloc ?_ _)); exact BK192.out⟩, ⟨by (with_reducible repeat (first | refine blk_drewN ?_ _ | refine blk_drew ?_ | refine blk_alloc ?_ _)); exact BK199.out⟩, ⟨by (with_reducible repeat (first | refine blk_drewN ?_ _ | refine blk_drew ?_ | refine blk_alloc ?_ _)); exact BK206.out⟩, ⟨by (with_reducible repeat (first | refine blk_drewN ?_ _ | refine blk_drew ?_ | refine blk_alloc ?_ _)); exact BK213.out⟩, ⟨by (with_reducible repeat (first | refine blk_drewN ?_ _ | refine blk_drew ?_ | refine blk_alloc ?_ _)); exact BK220.out⟩, ⟨by (with_reducible repeat (first | refine blk_drewN ?_ _ | refine blk_drew ?_ | refine blk_alloc ?_ _)); exact BK233.out⟩, ⟨by repeat (first | (with_reducible first | exact HB.out | apply below_alloc | apply pw_below_drewN | apply below_drew1 | refine below_set ?_ GE181.out | refine below_set ?_ GE182.out | refine below_set ?_ GE192.out | refine below_set ?_ GE199.out | refine below_set ?_ GE206.out | refine below_set ?_ GE213.out | refine below_set ?_ GE220.out | refine below_set ?_ GE233.out) | exact HB.out)⟩⟩
    case round =>
     clear H'
     try clear c1
     try clear c2
     try clear p2
     try clear q2
     try clear hx2
     try clear c3
     try clear c4
     try clear c5
     try clear c6
     try clear p6
     try clear c7
     try clear c8
     try clear c9
     try clear c10
     try clear c11
     try clear c12
     try clear c13
     try clear c14
     try clear c15
     try clear c16
     try clear c17
     try clear c18
     try clear c19
     try clear c20
     try clear c21
     try clear c22
     try clear p22
     try clear q22
     try clear hx22
     try clear c23
     try clear c24
     try clear c25
     try clear c26
     try clear c27
     try clear c28
     try clear c29
     try clear c30
     try clear c31
     try clear c32
     try clear c33
     try clear c34
     try clear c43
     try clear c44
     try clear c45
     try clear c50
     try clear c51
     try clear c52
     try clear c53
     try clear c56
     try clear c57
     try clear c61
     try clear c62
     try clear c63
     try clear c64
     try clear p64
     try clear c65
     try clear c68
     try clear c72
     try clear c73
     try clear c74
     try clear c75
     try clear c76
     try clear c77
     try clear c83
     try clear c84
     try clear c84b0
     try clear c85
     try clear c86
     try clear c87
     try clear c88
     try clear c89
     try clear c90
     try clear c94
     try clear c95
     try clear c96
     try clear c97
     try clear c98
     try clear c99
     try clear c102
     try clear c103
     try clear c104
     try clear c105
     try clear c106
     try clear c107
     try clear c111
     try clear c111b0
     try clear c111b1
     try clear c113
     try clear c114
     try clear c114b0
     try clear c114b1
     try clear c116
     try clear c118
     try clear c118b0
     try clear c118b1
     try clear c119
     try clear c119b0
     try clear c119b1
     try clear c119b2
     try clear c120
     try clear c121
     try clear c122
     try clear c123
     try clear c124
     try clear c125
     try clear c127
     try clear c128
     try clear c129
     try clear c130
     try clear c131
     try clear c134
     try clear c135
     try clear c136
     try clear c137
     try clear c139
     try clear c140
     try clear c141
     try clear c144
     try clear c145
     try clear c148
     try clear c149
     try clear c149b0
     try clear c150
     try clear c150b0
     try clear c151
     try clear c151b0
     try clear c151b1
     try clear c152
     try clear c153
     try clear c154
     try clear c155
     try clear c156
     try clear c157
     try clear c159
     try clear c160
     try clear c161
     try clear c162
     try clear c163
     try clear c166
     try clear c167
     try clear c168
     try clear c169
     try clear c171
     try clear c172
     try clear c173
     try clear c176
     try clear c177
     try clear c180
     try clear c182
     try clear c183
     try clear c184
     try clear c185
     try clear c186
     try clear c187
     try clear c189
     try clear c190
     try clear c191
     try clear c192
     try clear c193
     try clear c196
     try clear c197
     try clear c198
     try clear c199
     try clear c201
     try clear c202
     try clear c203
     try clear c206
     try clear c207
     try clear c210
     try clear c212
     try clear c213
     try clear c214
     try clear c215
     try clear c216
     try clear c217
     try clear c219
     try clear c220
     try clear c221
     try clear c222
     try clear c223
     try clear c226
     try clear c227
     try clear p227
     try clear q227
     try clear hx227
     try clear c228
     try clear c229
     try clear c231
     try clear c232
     try clear c233
     try clear c236
     try clear c237
     try clear c240
     try clear c241
     try clear c242
     try clear c243
     try clear c244
     try clear c245
     try clear c247
     try clear c248
     try clear c249
     try clear c250
     try clear c251
     try clear c254
     try clear c255
     try clear c256
     try clear c257
     try clear c259
     try clear c260
     try clear c261
     try clear c264
     try clear c265
     try clear c268
     try clear c269
     try clear c270
     try clear c271
     try clear c272
     try clear c273
     try clear c275
     try clear c276
     try clear c277
     try clear c278
     try clear c279
     try clear c282
     try clear c283
     try clear c284
     try clear c285
     try clear c287
     try clear c288
     try clear c289
     try clear c292
     try clear c293
     try clear c294
     try clear c295
     try clear c296
     try clear c297
     try clear c299
     try clear c300
     try clear c301
     try clear c302
     try clear c303
     try clear c306
     try clear c307
     try clear c308
     try clear c309
     try clear c310
     try clear c311
     try clear c313
     try clear c314
     try clear c315
     try clear c316
     try clear c317
     try clear c320
     try clear c323
     try clear c324
     try clear c325
     try clear c326
     try clear c327
     try clear c328
     try clear c329
     try clear c333
     try clear c334
     try clear c335
     try clear c336
     try clear c337
     try clear c338
     try clear c339
     try clear c342
     try clear c343
     try clear c344
     try clear c345
     try clear c346
     try clear hcz100_0
     try clear hcz100_1
     try clear hcz100_2
     try clear hcz108_0
     try clear hcz108_1
     try clear hcz108_2
     try clear hcz126_0
     try clear hcz126_1
     try clear hcz126_2
     try clear hcz132_0
     try clear hcz132_1
     try clear hcz132_2
     try clear hcz138_0
     try clear hcz138_1
     try clear hcz138_2
     try clear hcz142_0
     try clear hcz142_1
     try clear hcz142_2
     try clear hcz146_0
     try clear hcz146_1
     try clear hcz146_2
     try clear hcz158_0
     try clear hcz158_1
     try clear hcz158_2
     try clear hcz164_0
     try clear hcz164_1
     try clear hcz164_2
     try clear hcz170_0
     try clear hcz170_1
     try clear hcz170_2
     try clear hcz174_0
     try clear hcz174_1
     try clear hcz174_2
     try clear hcz178_0
     try clear hcz178_1
     try clear hcz178_2
     try clear hcz181_0
     try clear hcz181_1
     try clear hcz181_2
     try clear hcz188_0
     try clear hcz188_1
     try clear hcz188_2
     try clear hcz194_0
     try clear hcz194_1
     try clear hcz194_2
     try clear hcz200_0
     try clear hcz200_1
     try clear hcz200_2
     try clear hcz204_0
     try clear hcz204_1
     try clear hcz204_2
     try clear hcz208_0
     try clear hcz208_1
     try clear hcz208_2
     try clear hcz20_0
     try clear hcz20_1
     try clear hcz20_2
     try clear hcz211_0
     try clear hcz211_1
     try clear hcz211_2
     try clear hcz218_0
     try clear hcz218_1
     try clear hcz218_2
     try clear hcz224_0
     try clear hcz224_1
     try clear hcz224_2
     try clear hcz230_0
     try clear hcz230_1
     try clear hcz230_2
     try clear hcz234_0
     try clear hcz234_1
     try clear hcz234_2
     try clear hcz238_0
     try clear hcz238_1
     try clear hcz238_2
     try clear hcz246_0
     try clear hcz246_1
     try clear hcz246_2
     try clear hcz252_0
     try clear hcz252_1
     try clear hcz252_2
     try clear hcz258_0
     try clear hcz258_1
     try clear hcz258_2
     try clear hcz262_0
     try clear hcz262_1
     try clear hcz262_2
     try clear hcz266_0
     try clear hcz266_1
     try clear hcz266_2
     try clear hcz274_0
     try clear hcz274_1
     try clear hcz274_2
     try clear hcz280_0
     try clear hcz280_1
     try clear hcz280_2
     try clear hcz286_0
     try clear hcz286_1
     try clear hcz286_2
     try clear hcz290_0
     try clear hcz290_1
     try clear hcz290_2
     try clear hcz298_0
     try clear hcz298_1
     try clear hcz298_2
     try clear hcz304_0
     try clear hcz304_1
     try clear hcz304_2
     try clear hcz312_0
     try clear hcz312_1
     try clear hcz312_2
     try clear hcz318_0
     try clear hcz318_1
     try clear hcz318_2
     try clear hcz330_0
     try clear hcz330_1
     try clear hcz330_2
     try clear hcz340_0
     try clear hcz340_1
     try clear hcz340_2
     try clear hcz347_0
     try clear hcz347_1
     try clear hcz347_2
     try clear hcz46_0
     try clear hcz46_1
     try clear hcz46_2
     try clear hcz54_0
     try clear hcz54_1
     try clear hcz54_2
     try clear hcz58_0
     try clear hcz58_1
     try clear hcz58_2
     try clear hcz66_0
     try clear hcz66_1
     try clear hcz66_2
     try clear hcz69_0
     try clear hcz69_1
     try clear hcz69_2
     try clear hcz78_0
     try clear hcz78_1
     try clear hcz78_2
     try clear hcz80_0
     try clear hcz80_1
     try clear hcz80_2
     try clear hcz91_0
     try clear hcz91_1
     try clear hcz91_2
     try clear hcz93_0
     try clear hcz93_1
     try clear hcz93_2
     try clear hfz100_0
     try clear hfz100_1
     try clear hfz100_2
     try clear hfz108_0
     try clear hfz108_1
     try clear hfz108_2
     try clear hfz126_0
     try clear hfz126_1
     try clear hfz126_2
     try clear hfz132_0
     try clear hfz132_1
     try clear hfz132_2
     try clear hfz138_0
     try clear hfz138_1
     try clear hfz138_2
     try clear hfz142_0
     try clear hfz142_1
     try clear hfz142_2
     try clear hfz146_0
     try clear hfz146_1
     try clear hfz146_2
     try clear hfz14_0
     try clear hfz14_1
     try clear hfz14_2
     try clear hfz158_0
     try clear hfz158_1
     try clear hfz158_2
     try clear hfz164_0
     try clear hfz164_1
     try clear hfz164_2
     try clear hfz170_0
     try clear hfz170_1
     try clear hfz170_2
     try clear hfz174_0
     try clear hfz174_1
     try clear hfz174_2
     try clear hfz178_0
     try clear hfz178_1
     try clear hfz178_2
     try clear hfz181_0
     try clear hfz181_1
     try clear hfz181_2
     try clear hfz188_0
     try clear hfz188_1
     try clear hfz188_2
     try clear hfz18_0
     try clear hfz18_1
     try clear hfz18_2
     try clear hfz194_0
     try clear hfz194_1
     try clear hfz194_2
     try clear hfz200_0
     try clear hfz200_1
     try clear hfz200_2
     try clear hfz204_0
     try clear hfz204_1
     try clear hfz204_2
     try clear hfz208_0
     try clear hfz208_1
     try clear hfz208_2
     try clear hfz20_0
     try clear hfz20_1
     try clear hfz20_2
     try clear hfz211_0
     try clear hfz211_1
     try clear hfz211_2
     try clear hfz218_0
     try clear hfz218_1
     try clear hfz218_2
     try clear hfz224_0
     try clear hfz224_1
     try clear hfz224_2
     try clear hfz230_0
     try clear hfz230_1
     try clear hfz230_2
     try clear hfz234_0
     try clear hfz234_1
     try clear hfz234_2
     try clear hfz238_0
     try clear hfz238_1
     try clear hfz238_2
     try clear hfz246_0
     try clear hfz246_1
     try clear hfz246_2
     try clear hfz252_0
     try clear hfz252_1
     try clear hfz252_2
     try clear hfz258_0
     try clear hfz258_1
     try clear hfz258_2
     try clear hfz262_0
     try clear hfz262_1
     try clear hfz262_2
     try clear hfz266_0
     try clear hfz266_1
     try clear hfz266_2
     try clear hfz274_0
     try clear hfz274_1
     try clear hfz274_2
     try clear hfz280_0
     try clear hfz280_1
     try clear hfz280_2
     try clear hfz286_0
     try clear hfz286_1
     try clear hfz286_2
     try clear hfz290_0
     try clear hfz290_1
     try clear hfz290_2
     try clear hfz298_0
     try clear hfz298_1
     try clear hfz298_2
     try clear hfz304_0
     try clear hfz304_1
     try clear hfz304_2
     try clear hfz312_0
     try clear hfz312_1
     try clear hfz312_2
     try clear hfz318_0
     try clear hfz318_1
     try clear hfz318_2
     try clear hfz330_0
     try clear hfz330_1
     try clear hfz330_2
     try clear hfz340_0
     try clear hfz340_1
     try clear hfz340_2
     try clear hfz347_0
     try clear hfz347_1
     try clear hfz347_2
     try clear hfz46_0
     try clear hfz46_1
     try clear hfz46_2
     try clear hfz54_0
     try clear hfz54_1
     try clear hfz54_2
     try clear hfz58_0
     try clear hfz58_1
     try clear hfz58_2
     try clear hfz66_0
     try clear hfz66_1
     try clear hfz66_2
     try clear hfz69_0
     try clear hfz69_1
     try clear hfz69_2
     try clear hfz78_0
     try clear hfz78_1
     try clear hfz78_2
     try clear hfz80_0
     try clear hfz80_1
     try clear hfz80_2
     try clear hfz91_0
     try clear hfz91_1
     try clear hfz91_2
     try clear hfz93_0
     try clear hfz93_1
     try clear hfz93_2
     try clear hx227_0
     try clear p2
     try clear p22
     try clear p227
     try clear p6
     try clear p64
     try clear q22
     try clear q227
     obtain ⟨x22_4, x193002_4, x200002_4, x207002_4, x214002_4, x221002_4, x234002_4, u193002, u200002, u207002, u214002, u221002, u234002, rfl, HA, HK4, HO_193002, HO_200002, HO_207002, HO_214002, HO_221002, HO_234002, BK181, BK182, BK192, BK199, BK206, BK213, BK220, BK233, HB⟩ := hrel
     cases gk with
     | zero => exact absurd HA.out (by simp [meterlaw17_TableTells.l0])
     | succ k4 =>
      have H := HA.out
      clear HA
      simp only [meterlaw17_TableTells.l0] at H
      by_cases c349 : x22_4 < (x234002_4.length : Int)
      · rw [if_pos c349] at H
        have c349b0 : decide (x22_4 < (x234002_4.length : Int)) = true := decide_eq_true c349
        clear c349
        by_cases c350 : 0 ≤ x22_4
        · rw [if_pos c350] at H
          have c350b0 : decide (0 ≤ x22_4) = true := decide_eq_true c350
          clear c350
          obtain ⟨y235, hy235⟩ : ∃ y_ : List Int, y_ = (x234002_4.set (x22_4 : Int).toNat 99) := ⟨_, rfl⟩
          replace H : (meterlaw17_TableTells.l0 k4 (wrap64 (x22_4 + 1)) a0_0 a0_1 l0_2 a1_0 a1_1 l1_2 a0_0 a0_1 x193002_4 t207 t208 x214002_4 t228 t229 y235) = some r := by first | (rw [hy235]; with_reducible exact H) | (have H2_ := (Option.bind_some _ _).symm.trans H; rw [hy235]; with_reducible exact H2_) | (have H2_ := (Option.bind_some _ _).symm.trans H; with_reducible exact H2_) | with_reducible exact H | (rw [hy235]; exact H) | exact H
          have Ny235 := Aside0.mk hy235
          clear hy235
          have H' := Aside0.mk H
          clear H
          have hnb352 := NB233_181.out
          have hnc352 := NB181_233.out
          have hnb353 := NB233_182.out
          have hnc353 := NB182_233.out
          have hnb354 := NB233_192.out
          have hnc354 := NB192_233.out
          have hnb355 := NB233_199.out
          have hnc355 := NB199_233.out
          have hnb356 := NB233_206.out
          have hnc356 := NB206_233.out
          have hnb357 := NB233_213.out
          have hnc357 := NB213_233.out
          have hnb358 := NB233_220.out
          have hnc358 := NB220_233.out
          have hcz359_0 : wr.cell? ⟨gb233, 0, none⟩ = some (.int .i64 t228) := (blk_cell BK233.out 0).trans rfl
          have hcz359_1 : wr.cell? ⟨gb233, 1, none⟩ = some (.int .i64 t229) := (blk_cell BK233.out 1).trans rfl
          have hcz359_2 : wr.cell? ⟨gb233, 2, none⟩ = some (u234002) := (blk_cell BK233.out 2).trans rfl
          have hfz359_0 := blk_frozen BK233.out 0
          have hfz359_1 := blk_frozen BK233.out 1
          have hfz359_2 := blk_frozen BK233.out 2
          obtain ⟨Ao360, co360, eo360⟩ := Kd.R_slice HO_234002.out
          subst eo360
          have p351 : 0 ≤ (x22_4 : Int) := of_decide_eq_true (by first | (with_reducible assumption) | assumption)
          have q351 : (x22_4 : Int) < ((x234002_4.length : Int) : Int) := of_decide_eq_true (by first | (with_reducible assumption) | assumption)
          obtain ⟨go351, co351, eo351, gb351, gl351, cl351, HG351⟩ := Kd.R_form HO_234002.out (by omega)
          (first | cases eo351 | (injection eo351 with ea_ en_ ec_; (first | subst ea_ | (injection ea_ with ea_; subst ea_)); subst ec_; clear en_))
          have GB351 := Aside0.mk gb351
          have GG351 := Aside0.mk HG351
          clear gb351 gl351 HG351
          obtain ⟨hx351_0, hf351_0⟩ := Kd.R_celln 0 HO_234002.out (x22_4 : Int) p351 q351
          replace p351 := eq_true p351
          replace q351 := eq_true q351
          have HP361 := Kd.R_putg HO_234002.out (x22_4 : Int) 99
          go_wp2_with (first | ((with_reducible refine gate_store (t := 3) (p := 155) rfl ?_); refine store_event (t := 3) (p := 155) (v := ?vo_w362) (w1 := (wr.setCell ⟨go351, (x22_4 : Int).toNat, none⟩ (.int .i64 99))) ?hg ?ho ?hn ?hr ?_; (case ho => rfl); (case hg => rfl); (case hn => rfl); (case hr => first | (go_simp; done) | (go_simp; rfl)); intro w362 hw; have hg : wr.grownBy w362 (some go351) := (by rw [hw]; exact HP361.2); have hp_ : Kd.R (Kd.int .i64) 3 w362 w.heap.size (fun k_ => some k_ ≠ (u193002 : Value).ownBlock ∧ some k_ ≠ (u200002 : Value).ownBlock ∧ some k_ ≠ (u207002 : Value).ownBlock ∧ some k_ ≠ (u214002 : Value).ownBlock ∧ some k_ ≠ (u221002 : Value).ownBlock) (.slice (some ⟨go351, 0, none⟩) x234002_4.length co360) y235 := (by rw [hw, Ny235.out]; exact HP361.1); clear HP361; have n0_ := Aside0.mk (Kd.R_after (v := (.slice (some ⟨go351, 0, none⟩) x234002_4.length co360)) (v1 := (.slice (some ⟨go351, 0, none⟩) x234002_4.length co360)) (ok := (fun k_ => some k_ ≠ (u200002 : Value).ownBlock ∧ some k_ ≠ (u207002 : Value).ownBlock ∧ some k_ ≠ (u214002 : Value).ownBlock ∧ some k_ ≠ (u221002 : Value).ownBlock)) (by (with_reducible repeat (first | apply Kd.R_alloc | apply Kd.R_drewN | apply Kd.R_drew)); exact Kd.R_mono HO_193002.out (fun _ hk => ⟨⟨hk.1, ⟨hk.2.1, ⟨hk.2.2.1, hk.2.2.2.1⟩⟩⟩, hk.2.2.2.2⟩)) hg (.inl rfl)); have n1_ := Aside0.mk (Kd.R_after (v := (.slice (some ⟨go351, 0, none⟩) x234002_4.length co360)) (v1 := (.slice (some ⟨go351, 0, none⟩) x234002_4.length co360)) (ok := (fun k_ => some k_ ≠ (u193002 : Value).ownBlock ∧ some k_ ≠ (u207002 : Value).ownBlock ∧ some k_ ≠ (u214002 : Value).ownBlock ∧ some k_ ≠ (u221002 : Value).ownBlock)) (by (with_reducible repeat (first | apply Kd.R_alloc | apply Kd.R_drewN | apply Kd.R_drew)); exact Kd.R_mono HO_200002.out (fun _ hk => ⟨⟨hk.1, ⟨hk.2.1, ⟨hk.2.2.1, hk.2.2.2.1⟩⟩⟩, hk.2.2.2.2⟩)) hg (.inl rfl)); have n2_ := Aside0.mk (Kd.R_after (v := (.slice (some ⟨go351, 0, none⟩) x234002_4.length co360)) (v1 := (.slice (some ⟨go351, 0, none⟩) x234002_4.length co360)) (ok := (fun k_ => some k_ ≠ (u193002 : Value).ownBlock ∧ some k_ ≠ (u200002 : Value).ownBlock ∧ some k_ ≠ (u214002 : Value).ownBlock ∧ some k_ ≠ (u221002 : Value).ownBlock)) (by (with_reducible repeat (first | apply Kd.R_alloc | apply Kd.R_drewN | apply Kd.R_drew)); exact Kd.R_mono HO_207002.out (fun _ hk => ⟨⟨hk.1, ⟨hk.2.1, ⟨hk.2.2.1, hk.2.2.2.1⟩⟩⟩, hk.2.2.2.2⟩)) hg (.inl rfl)); have n3_ := Aside0.mk (Kd.R_after (v := (.slice (some ⟨go351, 0, none⟩) x234002_4.length co360)) (v1 := (.slice (some ⟨go351, 0, none⟩) x234002_4.length co360)) (ok := (fun k_ => some k_ ≠ (u193002 : Value).ownBlock ∧ some k_ ≠ (u200002 : Value).ownBlock ∧ some k_ ≠ (u207002 : Value).ownBlock ∧ some k_ ≠ (u221002 : Value).ownBlock)) (by (with_reducible repeat (first | apply Kd.R_alloc | apply Kd.R_drewN | apply Kd.R_drew)); exact Kd.R_mono HO_214002.out (fun _ hk => ⟨⟨hk.1, ⟨hk.2.1, ⟨hk.2.2.1, hk.2.2.2.1⟩⟩⟩, hk.2.2.2.2⟩)) hg (.inl rfl)); have n4_ := Aside0.mk (Kd.R_after (v := (.slice (some ⟨go351, 0, none⟩) x234002_4.length co360)) (v1 := (.slice (some ⟨go351, 0, none⟩) x234002_4.length co360)) (ok := (fun k_ => some k_ ≠ (u193002 : Value).ownBlock ∧ some k_ ≠ (u200002 : Value).ownBlock ∧ some k_ ≠ (u207002 : Value).ownBlock ∧ some k_ ≠ (u214002 : Value).ownBlock)) (by (with_reducible repeat (first | apply Kd.R_alloc | apply Kd.R_drewN | apply Kd.R_drew)); exact Kd.R_mono HO_221002.out (fun _ hk => ⟨⟨hk.1, ⟨hk.2.1, ⟨hk.2.2.1, hk.2.2.2.1⟩⟩⟩, hk.2.2.2.2⟩)) hg (.inl rfl)); have n5_ := Aside0.mk (hp_); have n6_ := Aside0.mk (blk_grown (g := gb181) (o := .cells #[.int .i64 a0_0, .int .i64 a0_1, .slice A0_2 l0_2.length c0_2] 24 (0, 0)) (by (with_reducible repeat (first | refine blk_drewN ?_ _ | refine blk_drew ?_ | refine blk_alloc ?_ _)); exact BK181.out) hg (Kd.R_ne HO_234002.out BK181.out (by decide))); have n7_ := Aside0.mk (blk_grown (g := gb182) (o := .cells #[.int .i64 a1_0, .int .i64 a1_1, .slice A1_2 l1_2.length c1_2] 24 (0, 0)) (by (with_reducible repeat (first | refine blk_drewN ?_ _ | refine blk_drew ?_ | refine blk_alloc ?_ _)); exact BK182.out) hg (Kd.R_ne HO_234002.out BK182.out (by decide))); have n8_ := Aside0.mk (blk_grown (g := gb192) (o := .cells #[.int .i64 a0_0, .int .i64 a0_1, u193002] 24 (0, 0)) (by (with_reducible repeat (first | refine blk_drewN ?_ _ | refine blk_drew ?_ | refine blk_alloc ?_ _)); exact BK192.out) hg (Kd.R_ne HO_234002.out BK192.out (by decide))); have n9_ := Aside0.mk (blk_grown (g := gb199) (o := .cells #[.int .i64 t193, .int .i64 t194, u200002] 24 (0, 0)) (by (with_reducible repeat (first | refine blk_drewN ?_ _ | refine blk_drew ?_ | refine blk_alloc ?_ _)); exact BK199.out) hg (Kd.R_ne HO_234002.out BK199.out (by decide))); have n10_ := Aside0.mk (blk_grown (g := gb206) (o := .cells #[.int .i64 t200, .int .i64 t201, u207002] 24 (0, 0)) (by (with_reducible repeat (first | refine blk_drewN ?_ _ | refine blk_drew ?_ | refine blk_alloc ?_ _)); exact BK206.out) hg (Kd.R_ne HO_234002.out BK206.out (by decide))); have n11_ := Aside0.mk (blk_grown (g := gb213) (o := .cells #[.int .i64 t207, .int .i64 t208, u214002] 24 (0, 0)) (by (with_reducible repeat (first | refine blk_drewN ?_ _ | refine blk_drew ?_ | refine blk_alloc ?_ _)); exact BK213.out) hg (Kd.R_ne HO_234002.out BK213.out (by decide))); have n12_ := Aside0.mk (blk_grown (g := gb220) (o := .cells #[.int .i64 t214, .int .i64 t215, u221002] 24 (0, 0)) (by (with_reducible repeat (first | refine blk_drewN ?_ _ | refine blk_drew ?_ | refine blk_alloc ?_ _)); exact BK220.out) hg (Kd.R_ne HO_234002.out BK220.out (by decide))); have n13_ := Aside0.mk (blk_grown (g := gb233) (o := .cells #[.int .i64 t228, .int .i64 t229, .slice (some ⟨go351, 0, none⟩) x234002_4.length co360] 24 (0, 0)) (by (with_reducible repeat (first | refine blk_drewN ?_ _ | refine blk_drew ?_ | refine blk_alloc ?_ _)); exact BK233.out) hg (Kd.R_ne HO_234002.out BK233.out (by decide))); have n14_ := Aside0.mk ((by rw [hw]; exact below_set (HB.out) GB351.out : Below w.heap.size w w362)); clear HO_193002; clear HO_200002; clear HO_207002; clear HO_214002; clear HO_221002; clear HO_234002; clear BK181; clear BK182; clear BK192; clear BK199; clear BK206; clear BK213; clear BK220; clear BK233; clear HB; have HO_193002 := n0_; have HO_200002 := n1_; have HO_207002 := n2_; have HO_214002 := n3_; have HO_221002 := n4_; have HO_234002 := n5_; have BK181 := n6_; have BK182 := n7_; have BK192 := n8_; have BK199 := n9_; have BK206 := n10_; have BK213 := n11_; have BK220 := n12_; have BK233 := n13_; have HB := n14_; clear n0_ n1_ n2_ n3_ n4_ n5_ n6_ n7_ n8_ n9_ n10_ n11_ n12_ n13_ n14_; clear hg hw hp_))
          go_roundg k4
          case measure => have := HJ6.out; have := HJ28.out; have := HJ109.out; have := HK4.out; omega
          case rel => exact ⟨(wrap64 (x22_4 + 1)), (x193002_4), (x200002_4), (x207002_4), (x214002_4), (x221002_4), (y235), (u193002), (u200002), (u207002), (u214002), (u221002), (.slice (some ⟨go351, 0, none⟩) x234002_4.length co360), (by first | rfl | (simp; done) | (simp [*]; done) | (congr 1; simp only [eq_iff_iff, iff_true, ByteArray.size_append] at *; unfold wrap64; omega) | (congr 2; simp only [eq_iff_iff, iff_true, ByteArray.size_append] at *; unfold wrap64; omega)), H', ⟨by have := HJ6.out; have := HJ28.out; have := HJ109.out; have := HK4.out; omega⟩, ⟨by (with_reducible repeat (first | apply Kd.R_alloc | apply Kd.R_drewN | apply Kd.R_drew)); exact Kd.R_mono HO_193002.out (fun _ hk => ⟨hk.1.1, ⟨hk.1.2.1, ⟨hk.1.2.2.1, ⟨hk.1.2.2.2, hk.2⟩⟩⟩⟩)⟩, ⟨by (with_reducible repeat (first | apply Kd.R_alloc | apply Kd.R_drewN | apply Kd.R_drew)); exact Kd.R_mono HO_200002.out (fun _ hk => ⟨hk.1.1, ⟨hk.1.2.1, ⟨hk.1.2.2.1, ⟨hk.1.2.2.2, hk.2⟩⟩⟩⟩)⟩, ⟨by (with_reducible repeat (first | apply Kd.R_alloc | apply Kd.R_drewN | apply Kd.R_drew)); exact Kd.R_mono HO_207002.out (fun _ hk => ⟨hk.1.1, ⟨hk.1.2.1, ⟨hk.1.2.2.1, ⟨hk.1.2.2.2, hk.2⟩⟩⟩⟩)⟩, ⟨by (with_reducible repeat (first | apply Kd.R_alloc | apply Kd.R_drewN | apply Kd.R_drew)); exact Kd.R_mono HO_214002.out (fun _ hk => ⟨hk.1.1, ⟨hk.1.2.1, ⟨hk.1.2.2.1, ⟨hk.1.2.2.2, hk.2⟩⟩⟩⟩)⟩, ⟨by (with_reducible repeat (first | apply Kd.R_alloc | apply Kd.R_drewN | apply Kd.R_drew)); exact Kd.R_mono HO_221002.out (fun _ hk => ⟨hk.1.1, ⟨hk.1.2.1, ⟨hk.1.2.2.1, ⟨hk.1.2.2.2, hk.2⟩⟩⟩⟩)⟩, ⟨by (with_reducible repeat (first | apply Kd.R_alloc | apply Kd.R_drewN | apply Kd.R_drew)); exact HO_234002.out⟩, ⟨by (with_reducible repeat (first | refine blk_drewN ?_ _ | refine blk_drew ?_ | refine blk_alloc ?_ _)); exact BK181.out⟩, ⟨by (with_reducible repeat (first | refine blk_drewN ?_ _ | refine blk_drew ?_ | refine blk_alloc ?_ _)); exact BK182.out⟩, ⟨by (with_reducible repeat (first | refine blk_drewN ?_ _ | refine blk_drew ?_ | refine blk_alloc ?_ _)); exact BK192.out⟩, ⟨by (with_reducible repeat (first | refine blk_drewN ?_ _ | refine blk_drew ?_ | refine blk_alloc ?_ _)); exact BK199.out⟩, ⟨by (with_reducible repeat (first | refine blk_drewN ?_ _ | refine blk_drew ?_ | refine blk_alloc ?_ _)); exact BK206.out⟩, ⟨by (with_reducible repeat (first | refine blk_drewN ?_ _ | refine blk_drew ?_ | refine blk_alloc ?_ _)); exact BK213.out⟩, ⟨by (with_reducible repeat (first | refine blk_drewN ?_ _ | refine blk_drew ?_ | refine blk_alloc ?_ _)); exact BK220.out⟩, ⟨by (with_reducible repeat (first | refine blk_drewN ?_ _ | refine blk_drew ?_ | refine blk_alloc ?_ _)); exact BK233.out⟩, ⟨by repeat (first | (with_reducible first | exact HB.out | apply below_alloc | apply pw_below_drewN | apply below_drew1 | refine below_set ?_ GE181.out | refine below_set ?_ GE182.out | refine below_set ?_ GE192.out | refine below_set ?_ GE199.out | refine below_set ?_ GE206.out | refine below_set ?_ GE213.out | refine below_set ?_ GE220.out | refine below_set ?_ GE233.out) | exact HB.out)⟩⟩
        rw [if_neg c350] at H
        exact absurd H (by simp)
      rw [if_neg c349] at H
      have c349b0 : decide (x22_4 < (x234002_4.length : Int)) = false := decide_eq_false c349
      clear c349
      have H' := Aside0.mk H
      clear H
      have hnb363 := NB233_181.out
      have hnc363 := NB181_233.out
      have hnb364 := NB233_182.out
      have hnc364 := NB182_233.out
      have hnb365 := NB233_192.out
      have hnc365 := NB192_233.out
      have hnb366 := NB233_199.out
      have hnc366 := NB199_233.out
      have hnb367 := NB233_206.out
      have hnc367 := NB206_233.out
      have hnb368 := NB233_213.out
      have hnc368 := NB213_233.out
      have hnb369 := NB233_220.out
      have hnc369 := NB220_233.out
      have hcz370_0 : wr.cell? ⟨gb233, 0, none⟩ = some (.int .i64 t228) := (blk_cell BK233.out 0).trans rfl
      have hcz370_1 : wr.cell? ⟨gb233, 1, none⟩ = some (.int .i64 t229) := (blk_cell BK233.out 1).trans rfl
      have hcz370_2 : wr.cell? ⟨gb233, 2, none⟩ = some (u234002) := (blk_cell BK233.out 2).trans rfl
      have hfz370_0 := blk_frozen BK233.out 0
      have hfz370_1 := blk_frozen BK233.out 1
      have hfz370_2 := blk_frozen BK233.out 2
      obtain ⟨Ao371, co371, eo371⟩ := Kd.R_slice HO_234002.out
      subst eo371
      go_wp2
      go_loopg [23] k4 (fun kq v23 w' => ∃ (x23_5 : Int) (x193002_5 : List Int) (x200002_5 : List Int) (x207002_5 : List Int) (x214002_5 : List Int) (x221002_5 : List Int) (x234002_5 : List Int) (u193002 : Value) (u200002 : Value) (u207002 : Value) (u214002 : Value) (u221002 : Value) (u234002 : Value), v23 = .int .i64 x23_5 ∧ Aside0 (meterlaw17_TableTells.l1 kq x23_5 a0_0 a0_1 l0_2 a1_0 a1_1 l1_2 a0_0 a0_1 x193002_5 t207 t208 x214002_5 = some r) ∧ Aside0 (kq ≤ k4) ∧ Aside0 (Kd.R (Kd.int .i64) 3 w' w.heap.size (fun k_ => some k_ ≠ (u200002 : Value).ownBlock ∧ some k_ ≠ (u207002 : Value).ownBlock ∧ some k_ ≠ (u214002 : Value).ownBlock ∧ some k_ ≠ (u221002 : Value).ownBlock ∧ some k_ ≠ (u234002 : Value).ownBlock) u193002 x193002_5) ∧ Aside0 (Kd.R (Kd.int .i64) 3 w' w.heap.size (fun k_ => some k_ ≠ (u193002 : Value).ownBlock ∧ some k_ ≠ (u207002 : Value).ownBlock ∧ some k_ ≠ (u214002 : Value).ownBlock ∧ some k_ ≠ (u221002 : Value).ownBlock ∧ some k_ ≠ (u234002 : Value).ownBlock) u200002 x200002_5) ∧ Aside0 (Kd.R (Kd.int .i64) 3 w' w.heap.size (fun k_ => some k_ ≠ (u193002 : Value).ownBlock ∧ some k_ ≠ (u200002 : Value).ownBlock ∧ some k_ ≠ (u214002 : Value).ownBlock ∧ some k_ ≠ (u221002 : Value).ownBlock ∧ some k_ ≠ (u234002 : Value).ownBlock) u207002 x207002_5) ∧ Aside0 (Kd.R (Kd.int .i64) 3 w' w.heap.size (fun k_ => some k_ ≠ (u193002 : Value).ownBlock ∧ some k_ ≠ (u200002 : Value).ownBlock ∧ some k_ ≠ (u207002 : Value).ownBlock ∧ some k_ ≠ (u221002 : Value).ownBlock ∧ some k_ ≠ (u234002 : Value).ownBlock) u214002 x214002_5) ∧ Aside0 (Kd.R (Kd.int .i64) 3 w' w.heap.size (fun k_ => some k_ ≠ (u193002 : Value).ownBlock ∧ some k_ ≠ (u200002 : Value).ownBlock ∧ some k_ ≠ (u207002 : Value).ownBlock ∧ some k_ ≠ (u214002 : Value).ownBlock ∧ some k_ ≠ (u234002 : Value).ownBlock) u221002 x221002_5) ∧ Aside0 (Kd.R (Kd.int .i64) 3 w' w.heap.size (fun k_ => some k_ ≠ (u193002 : Value).ownBlock ∧ some k_ ≠ (u200002 : Value).ownBlock ∧ some k_ ≠ (u207002 : Value).ownBlock ∧ some k_ ≠ (u214002 : Value).ownBlock ∧ some k_ ≠ (u221002 : Value).ownBlock) u234002 x234002_5) ∧ Aside0 (w'.heap[gb181]? = some (.cells #[.int .i64 a0_0, .int .i64 a0_1, (.slice A0_2 l0_2.length c0_2)] 24 (0, 0))) ∧ Aside0 (w'.heap[gb182]? = some (.cells #[.int .i64 a1_0, .int .i64 a1_1, (.slice A1_2 l1_2.length c1_2)] 24 (0, 0))) ∧ Aside0 (w'.heap[gb192]? = some (.cells #[.int .i64 a0_0, .int .i64 a0_1, u193002] 24 (0, 0))) ∧ Aside0 (w'.heap[gb199]? = some (.cells #[.int .i64 t193, .int .i64 t194, u200002] 24 (0, 0))) ∧ Aside0 (w'.heap[gb206]? = some (.cells #[.int .i64 t200, .int .i64 t201, u207002] 24 (0, 0))) ∧ Aside0 (w'.heap[gb213]? = some (.cells #[.int .i64 t207, .int .i64 t208, u214002] 24 (0, 0))) ∧ Aside0 (w'.heap[gb220]? = some (.cells #[.int .i64 t214, .int .i64 t215, u221002] 24 (0, 0))) ∧ Aside0 (w'.heap[gb233]? = some (.cells #[.int .i64 t228, .int .i64 t229, u234002] 24 (0, 0))) ∧ Aside0 (Below w.heap.size w w'))
      case atStart => exact ⟨(0), (x193002_4), (x200002_4), (x207002_4), (x214002_4), (x221002_4), (x234002_4), (u193002), (u200002), (u207002), (u214002), (u221002), (.slice Ao371 x234002_4.length co371), (by first | rfl | (simp; done) | (simp [*]; done) | (congr 1; simp only [eq_iff_iff, iff_true, ByteArray.size_append] at *; unfold wrap64; omega) | (congr 2; simp only [eq_iff_iff, iff_true, ByteArray.size_append] at *; unfold wrap64; omega)), H', ⟨Nat.le_refl _⟩, ⟨by (with_reducible repeat (first | apply Kd.R_alloc | apply Kd.R_drewN | apply Kd.R_drew)); exact HO_193002.out⟩, ⟨by (with_reducible repeat (first | apply Kd.R_alloc | apply Kd.R_drewN | apply Kd.R_drew)); exact HO_200002.out⟩, ⟨by (with_reducible repeat (first | apply Kd.R_alloc | apply Kd.R_drewN | apply Kd.R_drew)); exact HO_207002.out⟩, ⟨by (with_reducible repeat (first | apply Kd.R_alloc | apply Kd.R_drewN | apply Kd.R_drew)); exact HO_214002.out⟩, ⟨by (with_reducible repeat (first | apply Kd.R_alloc | apply Kd.R_drewN | apply Kd.R_drew)); exact HO_221002.out⟩, ⟨by (with_reducible repeat (first | apply Kd.R_alloc | apply Kd.R_drewN | apply Kd.R_drew)); exact HO_234002.out⟩, ⟨by (with_reducible repeat (first | refine blk_drewN ?_ _ | refine blk_drew ?_ | refine blk_alloc ?_ _)); exact BK181.out⟩, ⟨by (with_reducible repeat (first | refine blk_drewN ?_ _ | refine blk_drew ?_ | refine blk_alloc ?_ _)); exact BK182.out⟩, ⟨by (with_reducible repeat (first | refine blk_drewN ?_ _ | refine blk_drew ?_ | refine blk_alloc ?_ _)); exact BK192.out⟩, ⟨by (with_reducible repeat (first | refine blk_drewN ?_ _ | refine blk_drew ?_ | refine blk_alloc ?_ _)); exact BK199.out⟩, ⟨by (with_reducible repeat (first | refine blk_drewN ?_ _ | refine blk_drew ?_ | refine blk_alloc ?_ _)); exact BK206.out⟩, ⟨by (with_reducible repeat (first | refine blk_drewN ?_ _ | refine blk_drew ?_ | refine blk_alloc ?_ _)); exact BK213.out⟩, ⟨by (with_reducible repeat (first | refine blk_drewN ?_ _ | refine blk_drew ?_ | refine blk_alloc ?_ _)); exact BK220.out⟩, ⟨by (with_reducible repeat (first | refine blk_drewN ?_ _ | refine blk_drew ?_ | refine blk_alloc ?_ _)); exact BK233.out⟩, ⟨by repeat (first | (with_reducible first | exact HB.out | apply below_alloc | apply pw_below_drewN | apply below_drew1 | refine below_set ?_ GE181.out | refine below_set ?_ GE182.out | refine below_set ?_ GE192.out | refine below_set ?_ GE199.out | refine below_set ?_ GE206.out | refine below_set ?_ GE213.out | refine below_set ?_ GE220.out | refine below_set ?_ GE233.out) | exact HB.out)⟩⟩
      case round =>
       clear H'
       try clear c1
       try clear c2
       try clear p2
       try clear q2
       try clear hx2
       try clear c3
       try clear p3
       try clear q3
       try clear hx3
       try clear p6
       try clear c10
       try clear c11
       try clear c12
       try clear c13
       try clear c14
       try clear c15
       try clear c16
       try clear c17
       try clear c18
       try clear c19
       try clear c20
       try clear c21
       try clear c22
       try clear p22
       try clear q22
       try clear hx22
       try clear c23
       try clear c24
       try clear c25
       try clear c26
       try clear c27
       try clear c28
       try clear c29
       try clear c30
       try clear c31
       try clear c32
       try clear c33
       try clear c34
       try clear c35
       try clear p35
       try clear q35
       try clear hx35
       try clear hf35
       try clear c36
       try clear p64
       try clear c102
       try clear c103
       try clear c104
       try clear c105
       try clear c106
       try clear c107
       try clear c111
       try clear c111b0
       try clear c111b1
       try clear c113
       try clear c114
       try clear c114b0
       try clear c114b1
       try clear c116
       try clear c118
       try clear c118b0
       try clear c118b1
       try clear c119
       try clear c119b0
       try clear c119b1
       try clear c119b2
       try clear c120
       try clear c121
       try clear c122
       try clear c123
       try clear c124
       try clear c125
       try clear c127
       try clear c128
       try clear c129
       try clear c130
       try clear c131
       try clear c134
       try clear c135
       try clear c136
       try clear c137
       try clear c139
       try clear c140
       try clear c141
       try clear c144
       try clear c145
       try clear c148
       try clear c149
       try clear c149b0
       try clear c150
       try clear c150b0
       try clear c151
       try clear c151b0
       try clear c151b1
       try clear c152
       try clear c153
       try clear c154
       try clear c155
       try clear c156
       try clear c157
       try clear c159
       try clear c160
       try clear c161
       try clear c162
       try clear c163
       try clear c166
       try clear c167
       try clear c168
       try clear c169
       try clear c171
       try clear c172
       try clear c173
       try clear c176
       try clear c177
       try clear c180
       try clear c182
       try clear c183
       try clear c184
       try clear c185
       try clear c186
       try clear c187
       try clear c189
       try clear c190
       try clear c191
       try clear c192
       try clear c193
       try clear c196
       try clear c197
       try clear c198
       try clear c199
       try clear c201
       try clear c202
       try clear c203
       try clear c206
       try clear c207
       try clear c210
       try clear c212
       try clear c213
       try clear c214
       try clear c215
       try clear c216
       try clear c217
       try clear c219
       try clear c220
       try clear c221
       try clear c222
       try clear c223
       try clear c226
       try clear c227
       try clear p227
       try clear q227
       try clear hx227
       try clear c228
       try clear c229
       try clear c231
       try clear c232
       try clear c233
       try clear c236
       try clear c237
       try clear c240
       try clear c241
       try clear c242
       try clear c243
       try clear c244
       try clear c245
       try clear c247
       try clear c248
       try clear c249
       try clear c250
       try clear c251
       try clear c254
       try clear c255
       try clear c256
       try clear c257
       try clear c259
       try clear c260
       try clear c261
       try clear c264
       try clear c265
       try clear c268
       try clear c269
       try clear c270
       try clear c271
       try clear c272
       try clear c273
       try clear c275
       try clear c276
       try clear c277
       try clear c278
       try clear c279
       try clear c282
       try clear c283
       try clear c284
       try clear c285
       try clear c287
       try clear c288
       try clear c289
       try clear c292
       try clear c293
       try clear c294
       try clear c295
       try clear c296
       try clear c297
       try clear c299
       try clear c300
       try clear c301
       try clear c302
       try clear c303
       try clear c306
       try clear c307
       try clear c308
       try clear c309
       try clear c310
       try clear c311
       try clear c313
       try clear c314
       try clear c315
       try clear c316
       try clear c317
       try clear c320
       try clear c323
       try clear c324
       try clear c325
       try clear c326
       try clear c327
       try clear c328
       try clear c329
       try clear c333
       try clear c334
       try clear c335
       try clear c336
       try clear c337
       try clear c338
       try clear c339
       try clear c342
       try clear c343
       try clear c344
       try clear c345
       try clear c346
       try clear c349
       try clear c349b0
       try clear c350
       try clear c350b0
       try clear p351
       try clear q351
       try clear hx351
       try clear hf351
       try clear c352
       try clear c353
       try clear c354
       try clear c355
       try clear c356
       try clear c357
       try clear c358
       try clear c363
       try clear c364
       try clear c365
       try clear c366
       try clear c367
       try clear c368
       try clear c369
       try clear hcz100_0
       try clear hcz100_1
       try clear hcz100_2
       try clear hcz108_0
       try clear hcz108_1
       try clear hcz108_2
       try clear hcz126_0
       try clear hcz126_1
       try clear hcz126_2
       try clear hcz132_0
       try clear hcz132_1
       try clear hcz132_2
       try clear hcz138_0
       try clear hcz138_1
       try clear hcz138_2
       try clear hcz142_0
       try clear hcz142_1
       try clear hcz142_2
       try clear hcz146_0
       try clear hcz146_1
       try clear hcz146_2
       try clear hcz158_0
       try clear hcz158_1
       try clear hcz158_2
       try clear hcz164_0
       try clear hcz164_1
       try clear hcz164_2
       try clear hcz170_0
       try clear hcz170_1
       try clear hcz170_2
       try clear hcz174_0
       try clear hcz174_1
       try clear hcz174_2
       try clear hcz178_0
       try clear hcz178_1
       try clear hcz178_2
       try clear hcz181_0
       try clear hcz181_1
       try clear hcz181_2
       try clear hcz188_0
       try clear hcz188_1
       try clear hcz188_2
       try clear hcz194_0
       try clear hcz194_1
       try clear hcz194_2
       try clear hcz200_0
       try clear hcz200_1
       try clear hcz200_2
       try clear hcz204_0
       try clear hcz204_1
       try clear hcz204_2
       try clear hcz208_0
       try clear hcz208_1
       try clear hcz208_2
       try clear hcz20_0
       try clear hcz20_1
       try clear hcz20_2
       try clear hcz211_0
       try clear hcz211_1
       try clear hcz211_2
       try clear hcz218_0
       try clear hcz218_1
       try clear hcz218_2
       try clear hcz224_0
       try clear hcz224_1
       try clear hcz224_2
       try clear hcz230_0
       try clear hcz230_1
       try clear hcz230_2
       try clear hcz234_0
       try clear hcz234_1
       try clear hcz234_2
       try clear hcz238_0
       try clear hcz238_1
       try clear hcz238_2
       try clear hcz246_0
       try clear hcz246_1
       try clear hcz246_2
       try clear hcz252_0
       try clear hcz252_1
       try clear hcz252_2
       try clear hcz258_0
       try clear hcz258_1
       try clear hcz258_2
       try clear hcz262_0
       try clear hcz262_1
       try clear hcz262_2
       try clear hcz266_0
       try clear hcz266_1
       try clear hcz266_2
       try clear hcz274_0
       try clear hcz274_1
       try clear hcz274_2
       try clear hcz280_0
       try clear hcz280_1
       try clear hcz280_2
       try clear hcz286_0
       try clear hcz286_1
       try clear hcz286_2
       try clear hcz290_0
       try clear hcz290_1
       try clear hcz290_2
       try clear hcz298_0
       try clear hcz298_1
       try clear hcz298_2
       try clear hcz304_0
       try clear hcz304_1
       try clear hcz304_2
       try clear hcz312_0
       try clear hcz312_1
       try clear hcz312_2
       try clear hcz318_0
       try clear hcz318_1
       try clear hcz318_2
       try clear hcz330_0
       try clear hcz330_1
       try clear hcz330_2
       try clear hcz340_0
       try clear hcz340_1
       try clear hcz340_2
       try clear hcz347_0
       try clear hcz347_1
       try clear hcz347_2
       try clear hcz359_0
       try clear hcz359_1
       try clear hcz359_2
       try clear hcz370_0
       try clear hcz370_1
       try clear hcz370_2
       try clear hcz46_0
       try clear hcz46_1
       try clear hcz46_2
       try clear hcz54_0
       try clear hcz54_1
       try clear hcz54_2
       try clear hcz58_0
       try clear hcz58_1
       try clear hcz58_2
       try clear hcz66_0
       try clear hcz66_1
       try clear hcz66_2
       try clear hcz69_0
       try clear hcz69_1
       try clear hcz69_2
       try clear hcz78_0
       try clear hcz78_1
       try clear hcz78_2
       try clear hcz80_0
       try clear hcz80_1
       try clear hcz80_2
       try clear hcz91_0
       try clear hcz91_1
       try clear hcz91_2
       try clear hcz93_0
       try clear hcz93_1
       try clear hcz93_2
       try clear hfz100_0
       try clear hfz100_1
       try clear hfz100_2
       try clear hfz108_0
       try clear hfz108_1
       try clear hfz108_2
       try clear hfz126_0
       try clear hfz126_1
       try clear hfz126_2
       try clear hfz132_0
       try clear hfz132_1
       try clear hfz132_2
       try clear hfz138_0
       try clear hfz138_1
       try clear hfz138_2
       try clear hfz142_0
       try clear hfz142_1
       try clear hfz142_2
       try clear hfz146_0
       try clear hfz146_1
       try clear hfz146_2
       try clear hfz14_0
       try clear hfz14_1
       try clear hfz14_2
       try clear hfz158_0
       try clear hfz158_1
       try clear hfz158_2
       try clear hfz164_0
       try clear hfz164_1
       try clear hfz164_2
       try clear hfz170_0
       try clear hfz170_1
       try clear hfz170_2
       try clear hfz174_0
       try clear hfz174_1
       try clear hfz174_2
       try clear hfz178_0
       try clear hfz178_1
       try clear hfz178_2
       try clear hfz181_0
       try clear hfz181_1
       try clear hfz181_2
       try clear hfz188_0
       try clear hfz188_1
       try clear hfz188_2
       try clear hfz18_0
       try clear hfz18_1
       try clear hfz18_2
       try clear hfz194_0
       try clear hfz194_1
       try clear hfz194_2
       try clear hfz200_0
       try clear hfz200_1
       try clear hfz200_2
       try clear hfz204_0
       try clear hfz204_1
       try clear hfz204_2
       try clear hfz208_0
       try clear hfz208_1
       try clear hfz208_2
       try clear hfz20_0
       try clear hfz20_1
       try clear hfz20_2
       try clear hfz211_0
       try clear hfz211_1
       try clear hfz211_2
       try clear hfz218_0
       try clear hfz218_1
       try clear hfz218_2
       try clear hfz224_0
       try clear hfz224_1
       try clear hfz224_2
       try clear hfz230_0
       try clear hfz230_1
       try clear hfz230_2
       try clear hfz234_0
       try clear hfz234_1
       try clear hfz234_2
       try clear hfz238_0
       try clear hfz238_1
       try clear hfz238_2
       try clear hfz246_0
       try clear hfz246_1
       try clear hfz246_2
       try clear hfz252_0
       try clear hfz252_1
       try clear hfz252_2
       try clear hfz258_0
       try clear hfz258_1
       try clear hfz258_2
       try clear hfz262_0
       try clear hfz262_1
       try clear hfz262_2
       try clear hfz266_0
       try clear hfz266_1
       try clear hfz266_2
       try clear hfz274_0
       try clear hfz274_1
       try clear hfz274_2
       try clear hfz280_0
       try clear hfz280_1
       try clear hfz280_2
       try clear hfz286_0
       try clear hfz286_1
       try clear hfz286_2
       try clear hfz290_0
       try clear hfz290_1
       try clear hfz290_2
       try clear hfz298_0
       try clear hfz298_1
       try clear hfz298_2
       try clear hfz304_0
       try clear hfz304_1
       try clear hfz304_2
       try clear hfz312_0
       try clear hfz312_1
       try clear hfz312_2
       try clear hfz318_0
       try clear hfz318_1
       try clear hfz318_2
       try clear hfz330_0
       try clear hfz330_1
       try clear hfz330_2
       try clear hfz340_0
       try clear hfz340_1
       try clear hfz340_2
       try clear hfz347_0
       try clear hfz347_1
       try clear hfz347_2
       try clear hfz359_0
       try clear hfz359_1
       try clear hfz359_2
       try clear hfz370_0
       try clear hfz370_1
       try clear hfz370_2
       try clear hfz46_0
       try clear hfz46_1
       try clear hfz46_2
       try clear hfz54_0
       try clear hfz54_1
       try clear hfz54_2
       try clear hfz58_0
       try clear hfz58_1
       try clear hfz58_2
       try clear hfz66_0
       try clear hfz66_1
       try clear hfz66_2
       try clear hfz69_0
       try clear hfz69_1
       try clear hfz69_2
       try clear hfz78_0
       try clear hfz78_1
       try clear hfz78_2
       try clear hfz80_0
       try clear hfz80_1
       try clear hfz80_2
       try clear hfz91_0
       try clear hfz91_1
       try clear hfz91_2
       try clear hfz93_0
       try clear hfz93_1
       try clear hfz93_2
       try clear hx227_0
       try clear hx351_0
       try clear p2
       try clear p22
       try clear p227
       try clear p351
       try clear p6
       try clear p64
       try clear q22
       try clear q227
       try clear q351
       obtain ⟨x23_5, x193002_5, x200002_5, x207002_5, x214002_5, x221002_5, x234002_5, u193002, u200002, u207002, u214002, u221002, u234002, rfl, HA, HK5, HO_193002, HO_200002, HO_207002, HO_214002, HO_221002, HO_234002, BK181, BK182, BK192, BK199, BK206, BK213, BK220, BK233, HB⟩ := hrel
       cases gk with
       | zero => exact absurd HA.out (by simp [meterlaw17_TableTells.l1])
       | succ k5 =>
        have H := HA.out
        clear HA
        simp only [meterlaw17_TableTells.l1] at H
        by_cases c372 : x23_5 < (x214002_5.length : Int)
        · rw [if_pos c372] at H
          have c372b0 : decide (x23_5 < (x214002_5.length : Int)) = true := decide_eq_true c372
          clear c372
          by_cases c373 : 0 ≤ x23_5
          · rw [if_pos c373] at H
            have c373b0 : decide (0 ≤ x23_5) = true := decide_eq_true c373
            clear c373
            obtain ⟨y236, hy236⟩ : ∃ y_ : List Int, y_ = (x214002_5.set (x23_5 : Int).toNat 99) := ⟨_, rfl⟩
            replace H : (meterlaw17_TableTells.l1 k5 (wrap64 (x23_5 + 1)) a0_0 a0_1 l0_2 a1_0 a1_1 l1_2 a0_0 a0_1 x193002_5 t207 t208 y236) = some r := by first | (rw [hy236]; with_reducible exact H) | (have H2_ := (Option.bind_some _ _).symm.trans H; rw [hy236]; with_reducible exact H2_) | (have H2_ := (Option.bind_some _ _).symm.trans H; with_reducible exact H2_) | with_reducible exact H | (rw [hy236]; exact H) | exact H
            have Ny236 := Aside0.mk hy236
            clear hy236
            have H' := Aside0.mk H
            clear H
            have hnb375 := NB213_181.out
            have hnc375 := NB181_213.out
            have hnb376 := NB213_182.out
            have hnc376 := NB182_213.out
            have hnb377 := NB213_192.out
            have hnc377 := NB192_213.out
            have hnb378 := NB213_199.out
            have hnc378 := NB199_213.out
            have hnb379 := NB213_206.out
            have hnc379 := NB206_213.out
            have hnb380 := NB213_220.out
            have hnc380 := NB220_213.out
            have hnb381 := NB213_233.out
            have hnc381 := NB233_213.out
            have hcz382_0 : wr.cell? ⟨gb213, 0, none⟩ = some (.int .i64 t207) := (blk_cell BK213.out 0).trans rfl
            have hcz382_1 : wr.cell? ⟨gb213, 1, none⟩ = some (.int .i64 t208) := (blk_cell BK213.out 1).trans rfl
            have hcz382_2 : wr.cell? ⟨gb213, 2, none⟩ = some (u214002) := (blk_cell BK213.out 2).trans rfl
            have hfz382_0 := blk_frozen BK213.out 0
            have hfz382_1 := blk_frozen BK213.out 1
            have hfz382_2 := blk_frozen BK213.out 2
            obtain ⟨Ao383, co383, eo383⟩ := Kd.R_slice HO_214002.out
            subst eo383
            have p374 : 0 ≤ (x23_5 : Int) := of_decide_eq_true (by first | (with_reducible assumption) | assumption)
            have q374 : (x23_5 : Int) < ((x214002_5.length : Int) : Int) := of_decide_eq_true (by first | (with_reducible assumption) | assumption)
            obtain ⟨go374, co374, eo374, gb374, gl374, cl374, HG374⟩ := Kd.R_form HO_214002.out (by omega)
            (first | cases eo374 | (injection eo374 with ea_ en_ ec_; (first | subst ea_ | (injection ea_ with ea_; subst ea_)); subst ec_; clear en_))
            have GB374 := Aside0.mk gb374
            have GG374 := Aside0.mk HG374
            clear gb374 gl374 HG374
            obtain ⟨hx374_0, hf374_0⟩ := Kd.R_celln 0 HO_214002.out (x23_5 : Int) p374 q374
            replace p374 := eq_true p374
            replace q374 := eq_true q374
            have HP384 := Kd.R_putg HO_214002.out (x23_5 : Int) 99
            go_wp2_with (first | ((with_reducible refine gate_store (t := 3) (p := 166) rfl ?_); refine store_event (t := 3) (p := 166) (v := ?vo_w385) (w1 := (wr.setCell ⟨go374, (x23_5 : Int).toNat, none⟩ (.int .i64 99))) ?hg ?ho ?hn ?hr ?_; (case ho => rfl); (case hg => rfl); (case hn => rfl); (case hr => first | (go_simp; done) | (go_simp; rfl)); intro w385 hw; have hg : wr.grownBy w385 (some go374) := (by rw [hw]; exact HP384.2); have hp_ : Kd.R (Kd.int .i64) 3 w385 w.heap.size (fun k_ => some k_ ≠ (u193002 : Value).ownBlock ∧ some k_ ≠ (u200002 : Value).ownBlock ∧ some k_ ≠ (u207002 : Value).ownBlock ∧ some k_ ≠ (u221002 : Value).ownBlock ∧ some k_ ≠ (u234002 : Value).ownBlock) (.slice (some ⟨go374, 0, none⟩) x214002_5.length co383) y236 := (by rw [hw, Ny236.out]; exact HP384.1); clear HP384; have n0_ := Aside0.mk (Kd.R_after (v := (.slice (some ⟨go374, 0, none⟩) x214002_5.length co383)) (v1 := (.slice (some ⟨go374, 0, none⟩) x214002_5.length co383)) (ok := (fun k_ => some k_ ≠ (u200002 : Value).ownBlock ∧ some k_ ≠ (u207002 : Value).ownBlock ∧ some k_ ≠ (u221002 : Value).ownBlock ∧ some k_ ≠ (u234002 : Value).ownBlock)) (by (with_reducible repeat (first | apply Kd.R_alloc | apply Kd.R_drewN | apply Kd.R_drew)); exact Kd.R_mono HO_193002.out (fun _ hk => ⟨⟨hk.1, ⟨hk.2.1, ⟨hk.2.2.2.1, hk.2.2.2.2⟩⟩⟩, hk.2.2.1⟩)) hg (.inl rfl)); have n1_ := Aside0.mk (Kd.R_after (v := (.slice (some ⟨go374, 0, none⟩) x214002_5.length co383)) (v1 := (.slice (some ⟨go374, 0, none⟩) x214002_5.length co383)) (ok := (fun k_ => some k_ ≠ (u193002 : Value).ownBlock ∧ some k_ ≠ (u207002 : Value).ownBlock ∧ some k_ ≠ (u221002 : Value).ownBlock ∧ some k_ ≠ (u234002 : Value).ownBlock)) (by (with_reducible repeat (first | apply Kd.R_alloc | apply Kd.R_drewN | apply Kd.R_drew)); exact Kd.R_mono HO_200002.out (fun _ hk => ⟨⟨hk.1, ⟨hk.2.1, ⟨hk.2.2.2.1, hk.2.2.2.2⟩⟩⟩, hk.2.2.1⟩)) hg (.inl rfl)); have n2_ := Aside0.mk (Kd.R_after (v := (.slice (some ⟨go374, 0, none⟩) x214002_5.length co383)) (v1 := (.slice (some ⟨go374, 0, none⟩) x214002_5.length co383)) (ok := (fun k_ => some k_ ≠ (u193002 : Value).ownBlock ∧ some k_ ≠ (u200002 : Value).ownBlock ∧ some k_ ≠ (u221002 : Value).ownBlock ∧ some k_ ≠ (u234002 : Value).ownBlock)) (by (with_reducible repeat (first | apply Kd.R_alloc | apply Kd.R_drewN | apply Kd.R_drew)); exact Kd.R_mono HO_207002.out (fun _ hk => ⟨⟨hk.1, ⟨hk.2.1, ⟨hk.2.2.2.1, hk.2.2.2.2⟩⟩⟩, hk.2.2.1⟩)) hg (.inl rfl)); have n3_ := Aside0.mk (hp_); have n4_ := Aside0.mk (Kd.R_after (v := (.slice (some ⟨go374, 0, none⟩) x214002_5.length co383)) (v1 := (.slice (some ⟨go374, 0, none⟩) x214002_5.length co383)) (ok := (fun k_ => some k_ ≠ (u193002 : Value).ownBlock ∧ some k_ ≠ (u200002 : Value).ownBlock ∧ some k_ ≠ (u207002 : Value).ownBlock ∧ some k_ ≠ (u234002 : Value).ownBlock)) (by (with_reducible repeat (first | apply Kd.R_alloc | apply Kd.R_drewN | apply Kd.R_drew)); exact Kd.R_mono HO_221002.out (fun _ hk => ⟨⟨hk.1, ⟨hk.2.1, ⟨hk.2.2.1, hk.2.2.2.2⟩⟩⟩, hk.2.2.2.1⟩)) hg (.inl rfl)); have n5_ := Aside0.mk (Kd.R_after (v := (.slice (some ⟨go374, 0, none⟩) x214002_5.length co383)) (v1 := (.slice (some ⟨go374, 0, none⟩) x214002_5.length co383)) (ok := (fun k_ => some k_ ≠ (u193002 : Value).ownBlock ∧ some k_ ≠ (u200002 : Value).ownBlock ∧ some k_ ≠ (u207002 : Value).ownBlock ∧ some k_ ≠ (u221002 : Value).ownBlock)) (by (with_reducible repeat (first | apply Kd.R_alloc | apply Kd.R_drewN | apply Kd.R_drew)); exact Kd.R_mono HO_234002.out (fun _ hk => ⟨⟨hk.1, ⟨hk.2.1, ⟨hk.2.2.1, hk.2.2.2.2⟩⟩⟩, hk.2.2.2.1⟩)) hg (.inl rfl)); have n6_ := Aside0.mk (blk_grown (g := gb181) (o := .cells #[.int .i64 a0_0, .int .i64 a0_1, .slice A0_2 l0_2.length c0_2] 24 (0, 0)) (by (with_reducible repeat (first | refine blk_drewN ?_ _ | refine blk_drew ?_ | refine blk_alloc ?_ _)); exact BK181.out) hg (Kd.R_ne HO_214002.out BK181.out (by decide))); have n7_ := Aside0.mk (blk_grown (g := gb182) (o := .cells #[.int .i64 a1_0, .int .i64 a1_1, .slice A1_2 l1_2.length c1_2] 24 (0, 0)) (by (with_reducible repeat (first | refine blk_drewN ?_ _ | refine blk_drew ?_ | refine blk_alloc ?_ _)); exact BK182.out) hg (Kd.R_ne HO_214002.out BK182.out (by decide))); have n8_ := Aside0.mk (blk_grown (g := gb192) (o := .cells #[.int .i64 a0_0, .int .i64 a0_1, u193002] 24 (0, 0)) (by (with_reducible repeat (first | refine blk_drewN ?_ _ | refine blk_drew ?_ | refine blk_alloc ?_ _)); exact BK192.out) hg (Kd.R_ne HO_214002.out BK192.out (by decide))); have n9_ := Aside0.mk (blk_grown (g := gb199) (o := .cells #[.int .i64 t193, .int .i64 t194, u200002] 24 (0, 0)) (by (with_reducible repeat (first | refine blk_drewN ?_ _ | refine blk_drew ?_ | refine blk_alloc ?_ _)); exact BK199.out) hg (Kd.R_ne HO_214002.out BK199.out (by decide))); have n10_ := Aside0.mk (blk_grown (g := gb206) (o := .cells #[.int .i64 t200, .int .i64 t201, u207002] 24 (0, 0)) (by (with_reducible repeat (first | refine blk_drewN ?_ _ | refine blk_drew ?_ | refine blk_alloc ?_ _)); exact BK206.out) hg (Kd.R_ne HO_214002.out BK206.out (by decide))); have n11_ := Aside0.mk (blk_grown (g := gb213) (o := .cells #[.int .i64 t207, .int .i64 t208, .slice (some ⟨go374, 0, none⟩) x214002_5.length co383] 24 (0, 0)) (by (with_reducible repeat (first | refine blk_drewN ?_ _ | refine blk_drew ?_ | refine blk_alloc ?_ _)); exact BK213.out) hg (Kd.R_ne HO_214002.out BK213.out (by decide))); have n12_ := Aside0.mk (blk_grown (g := gb220) (o := .cells #[.int .i64 t214, .int .i64 t215, u221002] 24 (0, 0)) (by (with_reducible repeat (first | refine blk_drewN ?_ _ | refine blk_drew ?_ | refine blk_alloc ?_ _)); exact BK220.out) hg (Kd.R_ne HO_214002.out BK220.out (by decide))); have n13_ := Aside0.mk (blk_grown (g := gb233) (o := .cells #[.int .i64 t228, .int .i64 t229, u234002] 24 (0, 0)) (by (with_reducible repeat (first | refine blk_drewN ?_ _ | refine blk_drew ?_ | refine blk_alloc ?_ _)); exact BK233.out) hg (Kd.R_ne HO_214002.out BK233.out (by decide))); have n14_ := Aside0.mk ((by rw [hw]; exact below_set (HB.out) GB374.out : Below w.heap.size w w385)); clear HO_193002; clear HO_200002; clear HO_207002; clear HO_214002; clear HO_221002; clear HO_234002; clear BK181; clear BK182; clear BK192; clear BK199; clear BK206; clear BK213; clear BK220; clear BK233; clear HB; have HO_193002 := n0_; have HO_200002 := n1_; have HO_207002 := n2_; have HO_214002 := n3_; have HO_221002 := n4_; have HO_234002 := n5_; have BK181 := n6_; have BK182 := n7_; have BK192 := n8_; have BK199 := n9_; have BK206 := n10_; have BK213 := n11_; have BK220 := n12_; have BK233 := n13_; have HB := n14_; clear n0_ n1_ n2_ n3_ n4_ n5_ n6_ n7_ n8_ n9_ n10_ n11_ n12_ n13_ n14_; clear hg hw hp_))
            go_roundg k5
            case measure => have := HJ6.out; have := HJ28.out; have := HJ109.out; have := HK4.out; have := HK5.out; omega
            case rel => exact ⟨(wrap64 (x23_5 + 1)), (x193002_5), (x200002_5), (x207002_5), (y236), (x221002_5), (x234002_5), (u193002), (u200002), (u207002), (.slice (some ⟨go374, 0, none⟩) x214002_5.length co383), (u221002), (u234002), (by first | rfl | (simp; done) | (simp [*]; done) | (congr 1; simp only [eq_iff_iff, iff_true, ByteArray.size_append] at *; unfold wrap64; omega) | (congr 2; simp only [eq_iff_iff, iff_true, ByteArray.size_append] at *; unfold wrap64; omega)), H', ⟨by have := HJ6.out; have := HJ28.out; have := HJ109.out; have := HK4.out; have := HK5.out; omega⟩, ⟨by (with_reducible repeat (first | apply Kd.R_alloc | apply Kd.R_drewN | apply Kd.R_drew)); exact Kd.R_mono HO_193002.out (fun _ hk => ⟨hk.1.1, ⟨hk.1.2.1, ⟨hk.2, ⟨hk.1.2.2.1, hk.1.2.2.2⟩⟩⟩⟩)⟩, ⟨by (with_reducible repeat (first | apply Kd.R_alloc | apply Kd.R_drewN | apply Kd.R_drew)); exact Kd.R_mono HO_200002.out (fun _ hk => ⟨hk.1.1, ⟨hk.1.2.1, ⟨hk.2, ⟨hk.1.2.2.1, hk.1.2.2.2⟩⟩⟩⟩)⟩, ⟨by (with_reducible repeat (first | apply Kd.R_alloc | apply Kd.R_drewN | apply Kd.R_drew)); exact Kd.R_mono HO_207002.out (fun _ hk => ⟨hk.1.1, ⟨hk.1.2.1, ⟨hk.2, ⟨hk.1.2.2.1, hk.1.2.2.2⟩⟩⟩⟩)⟩, ⟨by (with_reducible repeat (first | apply Kd.R_alloc | apply Kd.R_drewN | apply Kd.R_drew)); exact HO_214002.out⟩, ⟨by (with_reducible repeat (first | apply Kd.R_alloc | apply Kd.R_drewN | apply Kd.R_drew)); exact Kd.R_mono HO_221002.out (fun _ hk => ⟨hk.1.1, ⟨hk.1.2.1, ⟨hk.1.2.2.1, ⟨hk.2, hk.1.2.2.2⟩⟩⟩⟩)⟩, ⟨by (with_reducible repeat (first | apply Kd.R_alloc | apply Kd.R_drewN | apply Kd.R_drew)); exact Kd.R_mono HO_234002.out (fun _ hk => ⟨hk.1.1, ⟨hk.1.2.1, ⟨hk.1.2.2.1, ⟨hk.2, hk.1.2.2.2⟩⟩⟩⟩)⟩, ⟨by (with_reducible repeat (first | refine blk_drewN ?_ _ | refine blk_drew ?_ | refine blk_alloc ?_ _)); exact BK181.out⟩, ⟨by (with_reducible repeat (first | refine blk_drewN ?_ _ | refine blk_drew ?_ | refine blk_alloc ?_ _)); exact BK182.out⟩, ⟨by (with_reducible repeat (first | refine blk_drewN ?_ _ | refine blk_drew ?_ | refine blk_alloc ?_ _)); exact BK192.out⟩, ⟨by (with_reducible repeat (first | refine blk_drewN ?_ _ | refine blk_drew ?_ | refine blk_alloc ?_ _)); exact BK199.out⟩, ⟨by (with_reducible repeat (first | refine blk_drewN ?_ _ | refine blk_drew ?_ | refine blk_alloc ?_ _)); exact BK206.out⟩, ⟨by (with_reducible repeat (first | refine blk_drewN ?_ _ | refine blk_drew ?_ | refine blk_alloc ?_ _)); exact BK213.out⟩, ⟨by (with_reducible repeat (first | refine blk_drewN ?_ _ | refine blk_drew ?_ | refine blk_alloc ?_ _)); exact BK220.out⟩, ⟨by (with_reducible repeat (first | refine blk_drewN ?_ _ | refine blk_drew ?_ | refine blk_alloc ?_ _)); exact BK233.out⟩, ⟨by repeat (first | (with_reducible first | exact HB.out | apply below_alloc | apply pw_below_drewN | apply below_drew1 | refine below_set ?_ GE181.out | refine below_set ?_ GE182.out | refine below_set ?_ GE192.out | refine below_set ?_ GE199.out | refine below_set ?_ GE206.out | refine below_set ?_ GE213.out | refine below_set ?_ GE220.out | refine below_set ?_ GE233.out) | exact HB.out)⟩⟩
          rw [if_neg c373] at H
          exact absurd H (by simp)
        rw [if_neg c372] at H
        have c372b0 : decide (x23_5 < (x214002_5.length : Int)) = false := decide_eq_false c372
        clear c372
        replace H := Option.bind_eq_some_iff.mp H
        obtain ⟨t237, A3860, H⟩ := H
        replace H : (if t237 = true then ((table_Right.f a0_0 a0_1 l0_2).bind fun t238 => ((meterref17_Right.f k5 a0_0 a0_1 l0_2).bind fun t239 => (if (t238 == t239) = true then ((table_Same.f k5 a0_0 a0_1 l0_2 a1_0 a1_1 l1_2).bind fun t240 => ((meterref17_Same.f k5 a0_0 a0_1 l0_2 a1_0 a1_1 l1_2).bind fun t241 => (if (t240 == t241) = true then ((table_Newer.f a0_0 a0_1 l0_2 a1_0 a1_1 l1_2).bind fun t242 => ((meterref17_Newer.f k5 a0_0 a0_1 l0_2 a1_0 a1_1 l1_2).bind fun t243 => (some (t242 == t243)))) else (some false)))) else (some false)))) else (some false)) = some r := H
        have A386 := Aside0.mk A3860
        clear A3860
        by_cases c387 : t237 = true
        · subst c387
          have H1 : ((table_Right.f a0_0 a0_1 l0_2).bind fun t238 => ((meterref17_Right.f k5 a0_0 a0_1 l0_2).bind fun t239 => (if (t238 == t239) = true then ((table_Same.f k5 a0_0 a0_1 l0_2 a1_0 a1_1 l1_2).bind fun t240 => ((meterref17_Same.f k5 a0_0 a0_1 l0_2 a1_0 a1_1 l1_2).bind fun t241 => (if (t240 == t241) = true then ((table_Newer.f a0_0 a0_1 l0_2 a1_0 a1_1 l1_2).bind fun t242 => ((meterref17_Newer.f k5 a0_0 a0_1 l0_2 a1_0 a1_1 l1_2).bind fun t243 => (some (t242 == t243)))) else (some false)))) else (some false)))) = some r := by rw [if_pos rfl] at H; exact H
          clear H
          have H := H1
          clear H1
          replace H := Option.bind_eq_some_iff.mp H
          obtain ⟨t238, A3880, H⟩ := H
          replace H : ((meterref17_Right.f k5 a0_0 a0_1 l0_2).bind fun t239 => (if (t238 == t239) = true then ((table_Same.f k5 a0_0 a0_1 l0_2 a1_0 a1_1 l1_2).bind fun t240 => ((meterref17_Same.f k5 a0_0 a0_1 l0_2 a1_0 a1_1 l1_2).bind fun t241 => (if (t240 == t241) = true then ((table_Newer.f a0_0 a0_1 l0_2 a1_0 a1_1 l1_2).bind fun t242 => ((meterref17_Newer.f k5 a0_0 a0_1 l0_2 a1_0 a1_1 l1_2).bind fun t243 => (some (t242 == t243)))) else (some false)))) else (some false))) = some r := H
          have A388 := Aside0.mk A3880
          clear A3880
          replace H := Option.bind_eq_some_iff.mp H
          obtain ⟨t239, A3890, H⟩ := H
          replace H : (if (t238 == t239) = true then ((table_Same.f k5 a0_0 a0_1 l0_2 a1_0 a1_1 l1_2).bind fun t240 => ((meterref17_Same.f k5 a0_0 a0_1 l0_2 a1_0 a1_1 l1_2).bind fun t241 => (if (t240 == t241) = true then ((table_Newer.f a0_0 a0_1 l0_2 a1_0 a1_1 l1_2).bind fun t242 => ((meterref17_Newer.f k5 a0_0 a0_1 l0_2 a1_0 a1_1 l1_2).bind fun t243 => (some (t242 == t243)))) else (some false)))) else (some false)) = some r := H
          have A389 := Aside0.mk A3890
          clear A3890
          by_cases c390 : (t238 == t239) = true
          · rw [if_pos c390] at H
            have c390b0 : (t238 == t239) = true := c390
            (try (have c390b1 : decide (t238 = t239) = true := by simpa using c390))
            (try (have c390b2 : (t238 == t239) = true := by simpa using c390))
            clear c390
            replace H := Option.bind_eq_some_iff.mp H
            obtain ⟨t240, A3910, H⟩ := H
            replace H : ((meterref17_Same.f k5 a0_0 a0_1 l0_2 a1_0 a1_1 l1_2).bind fun t241 => (if (t240 == t241) = true then ((table_Newer.f a0_0 a0_1 l0_2 a1_0 a1_1 l1_2).bind fun t242 => ((meterref17_Newer.f k5 a0_0 a0_1 l0_2 a1_0 a1_1 l1_2).bind fun t243 => (some (t242 == t243)))) else (some false))) = some r := H
            have A391 := Aside0.mk A3910
            clear A3910
            replace H := Option.bind_eq_some_iff.mp H
            obtain ⟨t241, A3920, H⟩ := H
            replace H : (if (t240 == t241) = true then ((table_Newer.f a0_0 a0_1 l0_2 a1_0 a1_1 l1_2).bind fun t242 => ((meterref17_Newer.f k5 a0_0 a0_1 l0_2 a1_0 a1_1 l1_2).bind fun t243 => (some (t242 == t243)))) else (some false)) = some r := H
            have A392 := Aside0.mk A3920
            clear A3920
            by_cases c393 : (t240 == t241) = true
            · rw [if_pos c393] at H
              have c393b0 : (t240 == t241) = true := c393
              (try (have c393b1 : decide (t240 = t241) = true := by simpa using c393))
              (try (have c393b2 : (t240 == t241) = true := by simpa using c393))
              clear c393
              replace H := Option.bind_eq_some_iff.mp H
              obtain ⟨t242, A3940, H⟩ := H
              replace H : ((meterref17_Newer.f k5 a0_0 a0_1 l0_2 a1_0 a1_1 l1_2).bind fun t243 => (some (t242 == t243))) = some r := H
              have A394 := Aside0.mk A3940
              clear A3940
              replace H := Option.bind_eq_some_iff.mp H
              obtain ⟨t243, A3950, H⟩ := H
              replace H : (some (t242 == t243)) = some r := H
              have A395 := Aside0.mk A3950
              clear A3950
              obtain rfl := Option.some.inj H
              have hnb396 := NB213_181.out
              have hnc396 := NB181_213.out
              have hnb397 := NB213_182.out
              have hnc397 := NB182_213.out
              have hnb398 := NB213_192.out
              have hnc398 := NB192_213.out
              have hnb399 := NB213_199.out
              have hnc399 := NB199_213.out
              have hnb400 := NB213_206.out
              have hnc400 := NB206_213.out
              have hnb401 := NB213_220.out
              have hnc401 := NB220_213.out
              have hnb402 := NB213_233.out
              have hnc402 := NB233_213.out
              have hcz403_0 : wr.cell? ⟨gb213, 0, none⟩ = some (.int .i64 t207) := (blk_cell BK213.out 0).trans rfl
              have hcz403_1 : wr.cell? ⟨gb213, 1, none⟩ = some (.int .i64 t208) := (blk_cell BK213.out 1).trans rfl
              have hcz403_2 : wr.cell? ⟨gb213, 2, none⟩ = some (u214002) := (blk_cell BK213.out 2).trans rfl
              have hfz403_0 := blk_frozen BK213.out 0
              have hfz403_1 := blk_frozen BK213.out 1
              have hfz403_2 := blk_frozen BK213.out 2
              obtain ⟨Ao404, co404, eo404⟩ := Kd.R_slice HO_214002.out
              subst eo404
              try go_wp2
              have n0_ := Aside0.mk (Kd.R_drew HO_193002.out)
              have n1_ := Aside0.mk (Kd.R_drew HO_200002.out)
              have n2_ := Aside0.mk (Kd.R_drew HO_207002.out)
              have n3_ := Aside0.mk (Kd.R_drew HO_214002.out)
              have n4_ := Aside0.mk (Kd.R_drew HO_221002.out)
              have n5_ := Aside0.mk (Kd.R_drew HO_234002.out)
              have n6_ := Aside0.mk (blk_drew BK181.out)
              have n7_ := Aside0.mk (blk_drew BK182.out)
              have n8_ := Aside0.mk (blk_drew BK192.out)
              have n9_ := Aside0.mk (blk_drew BK199.out)
              have n10_ := Aside0.mk (blk_drew BK206.out)
              have n11_ := Aside0.mk (blk_drew BK213.out)
              have n12_ := Aside0.mk (blk_drew BK220.out)
              have n13_ := Aside0.mk (blk_drew BK233.out)
              have n14_ := Aside0.mk (below_drew1 HB.out)
              clear HO_193002
              clear HO_200002
              clear HO_207002
              clear HO_214002
              clear HO_221002
              clear HO_234002
              clear BK181
              clear BK182
              clear BK192
              clear BK199
              clear BK206
              clear BK213
              clear BK220
              clear BK233
              clear HB
              have HO_193002 := n0_
              have HO_200002 := n1_
              have HO_207002 := n2_
              have HO_214002 := n3_
              have HO_221002 := n4_
              have HO_234002 := n5_
              have BK181 := n6_
              have BK182 := n7_
              have BK192 := n8_
              have BK199 := n9_
              have BK206 := n10_
              have BK213 := n11_
              have BK220 := n12_
              have BK233 := n13_
              have HB := n14_
              clear n0_ n1_ n2_ n3_ n4_ n5_ n6_ n7_ n8_ n9_ n10_ n11_ n12_ n13_ n14_
              obtain ⟨Ao406, co406, eo406⟩ := Kd.R_slice HO_193002.out
              (first | subst eo406 | (injection eo406 with f1_ f2_ f3_; have f4_ := f1_.symm; have f5_ := f3_.symm; clear f1_ f2_ f3_; subst f4_; subst f5_))
              refine start_ (n := 29) (S := fun w' => w'.cell? ⟨gb192, 0, none⟩ = some (.int .i64 a0_0) ∧ w'.cell? ⟨gb192, 1, none⟩ = some (.int .i64 a0_1) ∧ w'.cell? ⟨gb192, 2, none⟩ = some (.slice Ao406 x193002_5.length co406) ∧ w'.cell? ⟨gb181, 0, none⟩ = some (.int .i64 a0_0) ∧ w'.cell? ⟨gb181, 1, none⟩ = some (.int .i64 a0_1) ∧ w'.cell? ⟨gb181, 2, none⟩ = some (.slice A0_2 l0_2.length c0_2) ∧ w'.cell? ⟨gb182, 0, none⟩ = some (.int .i64 a1_0) ∧ w'.cell? ⟨gb182, 1, none⟩ = some (.int .i64 a1_1) ∧ w'.cell? ⟨gb182, 2, none⟩ = some (.slice A1_2 l1_2.length c1_2)) (ds := []) #[false, false, false, false, false, false, false, false, false, false, false, false, false, false, false, false, false, false, false, false, false, false, false, false, false, false, false, false, false] (by kernel_rfl) rfl rfl ⟨(blk_cell BK192.out 0).trans rfl, (blk_cell BK192.out 1).trans rfl, (blk_cell BK192.out 2).trans rfl, (blk_cell BK181.out 0).trans rfl, (blk_cell BK181.out 1).trans rfl, (blk_cell BK181.out 2).trans rfl, (blk_cell BK182.out 0).trans rfl, (blk_cell BK182.out 1).trans rfl, (blk_cell BK182.out 2).trans rfl⟩ (fun hHeld => ?_); refine with_tabW meterlaw17_TableTells.tab25 meterlaw17_TableTells.bits25 (fun HT_ HW_ => ?_)
              generalize wr.drew = w405 at HO_193002 HO_200002 HO_207002 HO_214002 HO_221002 HO_234002 BK181 BK182 BK192 BK199 BK206 BK213 BK220 BK233 HB hHeld ⊢
              refine take_ (i := 0) (N := some 167) (v := ?_) (a' := ?_) #[true, false, false, false, false, false, false, false, false, false, false, false, false, false, false, false, false, false, false, false, false, false, false, false, false, false, false, false, false] rfl rfl (take_ofW HT_.out HW_.out (by kernel_rfl)) (fun _ _ _ h => h) (Or.inl ⟨by rfl, ?_⟩) hHeld ?_ ?_
              rotate_left
              · rintro w' ⟨s0, s1, s2, s3, s4, s5, s6, s7, s8⟩
                go_simp
                with_reducible rfl
              rotate_left
              · simp only [Act.put, List.setIfInBounds_toArray, List.set_cons_zero, List.set_cons_succ, i64_w, i32_w]
                rfl
              refine take_ (i := 1) (N := some 168) (v := ?_) (a' := ?_) #[true, true, false, false, false, false, false, false, false, false, false, false, false, false, false, false, false, false, false, false, false, false, false, false, false, false, false, false, false] rfl rfl (take_ofW HT_.out HW_.out (by kernel_rfl)) (fun _ _ _ h => h) (Or.inl ⟨by rfl, ?_⟩) hHeld ?_ ?_
              rotate_left
              · rintro w' ⟨s0, s1, s2, s3, s4, s5, s6, s7, s8⟩
                go_simp
                with_reducible rfl
              rotate_left
              · simp only [Act.put, List.setIfInBounds_toArray, List.set_cons_zero, List.set_cons_succ, i64_w, i32_w]
                rfl
              refine one_ (i := 2) (N := some 169) #[true, true, true, false, false, false, false, false, false, false, false, false, false, false, false, false, false, false, false, false, false, false, false, false, false, false, false, false, false] rfl rfl (one_of HT_.out (by kernel_rfl)) (by decide) (fun K hK => ?_)
              refine goes_ Try.func15 (by kernel_rfl) rfl #[.agg #[.int .i64 a0_0, .int .i64 a0_1, .slice Ao406 x193002_5.length co406], .agg #[.int .i64 a0_0, .int .i64 a0_1, .slice A0_2 l0_2.length c0_2]] (by rfl) rfl rfl (by (try simp only [List.map_toArray, List.map_cons, List.map_nil]); first | done | rfl | (simp only [List.length_drop, List.length_take]; rfl)) ?_
              with_reducible refine (meterref17_Same.calls k5 a0_0 a0_1 _ _ x193002_5 a0_0 a0_1 _ _ l0_2 true _ ?side1 ?side2 ?side3 ?side4 A386.out).mono ?_
              (case side1 => repeat (first | exact (Kd.R_reads' HO_193002.out).2.2 | (with_reducible refine Kd.C_alloc ?_ _) | (with_reducible refine Kd.C_drewN ?_ _) | (with_reducible refine Kd.C_drew ?_)))
              (case side2 => exact (Kd.R_reads' HO_193002.out).2.1)
              (case side3 => repeat (first | exact (Kd.C_below HR0_2.out HB.out) | (with_reducible refine Kd.C_alloc ?_ _) | (with_reducible refine Kd.C_drewN ?_ _) | (with_reducible refine Kd.C_drew ?_)))
              (case side4 => exact HC0_2.out)
              rintro e w407 ⟨rfl, hb⟩
              refine ⟨_, rfl, ?_⟩
              have n0_ := Aside0.mk (Kd.R_below (by (with_reducible repeat (first | apply Kd.R_alloc | apply Kd.R_drewN | apply Kd.R_drew)); exact HO_193002.out) hb)
              have n1_ := Aside0.mk (Kd.R_below (by (with_reducible repeat (first | apply Kd.R_alloc | apply Kd.R_drewN | apply Kd.R_drew)); exact HO_200002.out) hb)
              have n2_ := Aside0.mk (Kd.R_below (by (with_reducible repeat (first | apply Kd.R_alloc | apply Kd.R_drewN | apply Kd.R_drew)); exact HO_207002.out) hb)
              have n3_ := Aside0.mk (Kd.R_below (by (with_reducible repeat (first | apply Kd.R_alloc | apply Kd.R_drewN | apply Kd.R_drew)); exact HO_214002.out) hb)
              have n4_ := Aside0.mk (Kd.R_below (by (with_reducible repeat (first | apply Kd.R_alloc | apply Kd.R_drewN | apply Kd.R_drew)); exact HO_221002.out) hb)
              have n5_ := Aside0.mk (Kd.R_below (by (with_reducible repeat (first | apply Kd.R_alloc | apply Kd.R_drewN | apply Kd.R_drew)); exact HO_234002.out) hb)
              have n6_ := Aside0.mk (blk_below (g := gb181) (o := .cells #[.int .i64 a0_0, .int .i64 a0_1, .slice A0_2 l0_2.length c0_2] 24 (0, 0)) (by (with_reducible repeat (first | refine blk_drewN ?_ _ | refine blk_drew ?_ | refine blk_alloc ?_ _)); exact BK181.out) hb)
              have n7_ := Aside0.mk (blk_below (g := gb182) (o := .cells #[.int .i64 a1_0, .int .i64 a1_1, .slice A1_2 l1_2.length c1_2] 24 (0, 0)) (by (with_reducible repeat (first | refine blk_drewN ?_ _ | refine blk_drew ?_ | refine blk_alloc ?_ _)); exact BK182.out) hb)
              have n8_ := Aside0.mk (blk_below (g := gb192) (o := .cells #[.int .i64 a0_0, .int .i64 a0_1, .slice Ao406 x193002_5.length co406] 24 (0, 0)) (by (with_reducible repeat (first | refine blk_drewN ?_ _ | refine blk_drew ?_ | refine blk_alloc ?_ _)); exact BK192.out) hb)
              have n9_ := Aside0.mk (blk_below (g := gb199) (o := .cells #[.int .i64 t193, .int .i64 t194, u200002] 24 (0, 0)) (by (with_reducible repeat (first | refine blk_drewN ?_ _ | refine blk_drew ?_ | refine blk_alloc ?_ _)); exact BK199.out) hb)
              have n10_ := Aside0.mk (blk_below (g := gb206) (o := .cells #[.int .i64 t200, .int .i64 t201, u207002] 24 (0, 0)) (by (with_reducible repeat (first | refine blk_drewN ?_ _ | refine blk_drew ?_ | refine blk_alloc ?_ _)); exact BK206.out) hb)
              have n11_ := Aside0.mk (blk_below (g := gb213) (o := .cells #[.int .i64 t207, .int .i64 t208, .slice Ao404 x214002_5.length co404] 24 (0, 0)) (by (with_reducible repeat (first | refine blk_drewN ?_ _ | refine blk_drew ?_ | refine blk_alloc ?_ _)); exact BK213.out) hb)
              have n12_ := Aside0.mk (blk_below (g := gb220) (o := .cells #[.int .i64 t214, .int .i64 t215, u221002] 24 (0, 0)) (by (with_reducible repeat (first | refine blk_drewN ?_ _ | refine blk_drew ?_ | refine blk_alloc ?_ _)); exact BK220.out) hb)
              have n13_ := Aside0.mk (blk_below (g := gb233) (o := .cells #[.int .i64 t228, .int .i64 t229, u234002] 24 (0, 0)) (by (with_reducible repeat (first | refine blk_drewN ?_ _ | refine blk_drew ?_ | refine blk_alloc ?_ _)); exact BK233.out) hb)
              have n14_ := Aside0.mk (below_step (by repeat (first | (with_reducible first | exact HB.out | apply below_alloc | apply pw_below_drewN | apply below_drew1 | refine below_set ?_ GE181.out | refine below_set ?_ GE182.out | refine below_set ?_ GE192.out | refine below_set ?_ GE199.out | refine below_set ?_ GE206.out | refine below_set ?_ GE213.out | refine below_set ?_ GE220.out | refine below_set ?_ GE233.out) | exact HB.out)) hb)
              clear HO_193002
              clear HO_200002
              clear HO_207002
              clear HO_214002
              clear HO_221002
              clear HO_234002
              clear BK181
              clear BK182
              clear BK192
              clear BK199
              clear BK206
              clear BK213
              clear BK220
              clear BK233
              clear HB
              have HO_193002 := n0_
              have HO_200002 := n1_
              have HO_207002 := n2_
              have HO_214002 := n3_
              have HO_221002 := n4_
              have HO_234002 := n5_
              have BK181 := n6_
              have BK182 := n7_
              have BK192 := n8_
              have BK199 := n9_
              have BK206 := n10_
              have BK213 := n11_
              have BK220 := n12_
              have BK233 := n13_
              have HB := n14_
              clear n0_ n1_ n2_ n3_ n4_ n5_ n6_ n7_ n8_ n9_ n10_ n11_ n12_ n13_ n14_
              (try clear hb)
              (try clear hb2)
              (try clear hk)
              (try clear hi)
              refine hK.out _ _ ⟨(blk_cell BK192.out 0).trans rfl, (blk_cell BK192.out 1).trans rfl, (blk_cell BK192.out 2).trans rfl, (blk_cell BK181.out 0).trans rfl, (blk_cell BK181.out 1).trans rfl, (blk_cell BK181.out 2).trans rfl, (blk_cell BK182.out 0).trans rfl, (blk_cell BK182.out 1).trans rfl, (blk_cell BK182.out 2).trans rfl⟩ (fun hHeld => ?_)
              clear hK K
              refine norm_ (a' := ?_) ?_ ?_
              rotate_left
              · show Act.put _ (some 169) _ = _
                simp only [Act.put, List.setIfInBounds_toArray, List.set_cons_zero, List.set_cons_succ, i64_w, i32_w]
                rfl
              refine pure_ (i := 3) (N := some 170) (v := ?_) (a' := ?_) #[true, true, true, true, false, false, false, false, false, false, false, false, false, false, false, false, false, false, false, false, false, false, false, false, false, false, false, false, false] rfl rfl (any_of HT_.out (by kernel_rfl)) (fun _ _ _ h => h) (Or.inl ⟨by rfl, ?_⟩) ?_ ?_
              rotate_left
              · intro w'
                go_simp
                with_reducible rfl
              rotate_left
              · simp only [Act.put, List.setIfInBounds_toArray, List.set_cons_zero, List.set_cons_succ, i64_w, i32_w]
                rfl
              refine take_ (i := 4) (N := some 171) (v := ?_) (a' := ?_) #[true, true, true, true, true, false, false, false, false, false, false, false, false, false, false, false, false, false, false, false, false, false, false, false, false, false, false, false, false] rfl rfl (take_ofW HT_.out HW_.out (by kernel_rfl)) (fun _ _ _ h => h) (Or.inl ⟨by rfl, ?_⟩) hHeld ?_ ?_
              rotate_left
              · rintro w' ⟨s0, s1, s2, s3, s4, s5, s6, s7, s8⟩
                go_simp
                with_reducible rfl
              rotate_left
              · simp only [Act.put, List.setIfInBounds_toArray, List.set_cons_zero, List.set_cons_succ, i64_w, i32_w]
                rfl
              refine take_ (i := 6) (N := some 173) (v := ?_) (a' := ?_) #[true, true, true, true, true, false, true, false, false, false, false, false, false, false, false, false, false, false, false, false, false, false, false, false, false, false, false, false, false] rfl rfl (take_ofW HT_.out HW_.out (by kernel_rfl)) (fun _ _ _ h => h) (Or.inl ⟨by rfl, ?_⟩) hHeld ?_ ?_
              rotate_left
              · rintro w' ⟨s0, s1, s2, s3, s4, s5, s6, s7, s8⟩
                go_simp
                with_reducible rfl
              rotate_left
              · simp only [Act.put, List.setIfInBounds_toArray, List.set_cons_zero, List.set_cons_succ, i64_w, i32_w]
                rfl
              refine one_ (i := 5) (N := some 172) #[true, true, true, true, true, true, true, false, false, false, false, false, false, false, false, false, false, false, false, false, false, false, false, false, false, false, false, false, false] rfl rfl (one_of HT_.out (by kernel_rfl)) (by decide) (fun K hK => ?_)
              refine goes_ Try.func11 (by kernel_rfl) rfl #[.agg #[.int .i64 a0_0, .int .i64 a0_1, .slice A0_2 l0_2.length c0_2]] (by rfl) rfl rfl (by (try simp only [List.map_toArray, List.map_cons, List.map_nil]); first | done | rfl | (simp only [List.length_drop, List.length_take]; rfl)) ?_
              with_reducible refine (table_Right.calls a0_0 a0_1 _ _ l0_2 t238 _ ?side1 ?side2 A388.out).mono ?_
              (case side1 => repeat (first | exact (Kd.C_below HR0_2.out HB.out) | (with_reducible refine Kd.C_alloc ?_ _) | (with_reducible refine Kd.C_drewN ?_ _) | (with_reducible refine Kd.C_drew ?_)))
              (case side2 => exact HC0_2.out)
              rintro e w408 ⟨rfl, hb⟩
              refine ⟨_, rfl, ?_⟩
              have n0_ := Aside0.mk (Kd.R_below (by (with_reducible repeat (first | apply Kd.R_alloc | apply Kd.R_drewN | apply Kd.R_drew)); exact HO_193002.out) hb)
              have n1_ := Aside0.mk (Kd.R_below (by (with_reducible repeat (first | apply Kd.R_alloc | apply Kd.R_drewN | apply Kd.R_drew)); exact HO_200002.out) hb)
              have n2_ := Aside0.mk (Kd.R_below (by (with_reducible repeat (first | apply Kd.R_alloc | apply Kd.R_drewN | apply Kd.R_drew)); exact HO_207002.out) hb)
              have n3_ := Aside0.mk (Kd.R_below (by (with_reducible repeat (first | apply Kd.R_alloc | apply Kd.R_drewN | apply Kd.R_drew)); exact HO_214002.out) hb)
              have n4_ := Aside0.mk (Kd.R_below (by (with_reducible repeat (first | apply Kd.R_alloc | apply Kd.R_drewN | apply Kd.R_drew)); exact HO_221002.out) hb)
              have n5_ := Aside0.mk (Kd.R_below (by (with_reducible repeat (first | apply Kd.R_alloc | apply Kd.R_drewN | apply Kd.R_drew)); exact HO_234002.out) hb)
              have n6_ := Aside0.mk (blk_below (g := gb181) (o := .cells #[.int .i64 a0_0, .int .i64 a0_1, .slice A0_2 l0_2.length c0_2] 24 (0, 0)) (by (with_reducible repeat (first | refine blk_drewN ?_ _ | refine blk_drew ?_ | refine blk_alloc ?_ _)); exact BK181.out) hb)
              have n7_ := Aside0.mk (blk_below (g := gb182) (o := .cells #[.int .i64 a1_0, .int .i64 a1_1, .slice A1_2 l1_2.length c1_2] 24 (0, 0)) (by (with_reducible repeat (first | refine blk_drewN ?_ _ | refine blk_drew ?_ | refine blk_alloc ?_ _)); exact BK182.out) hb)
              have n8_ := Aside0.mk (blk_below (g := gb192) (o := .cells #[.int .i64 a0_0, .int .i64 a0_1, .slice Ao406 x193002_5.length co406] 24 (0, 0)) (by (with_reducible repeat (first | refine blk_drewN ?_ _ | refine blk_drew ?_ | refine blk_alloc ?_ _)); exact BK192.out) hb)
              have n9_ := Aside0.mk (blk_below (g := gb199) (o := .cells #[.int .i64 t193, .int .i64 t194, u200002] 24 (0, 0)) (by (with_reducible repeat (first | refine blk_drewN ?_ _ | refine blk_drew ?_ | refine blk_alloc ?_ _)); exact BK199.out) hb)
              have n10_ := Aside0.mk (blk_below (g := gb206) (o := .cells #[.int .i64 t200, .int .i64 t201, u207002] 24 (0, 0)) (by (with_reducible repeat (first | refine blk_drewN ?_ _ | refine blk_drew ?_ | refine blk_alloc ?_ _)); exact BK206.out) hb)
              have n11_ := Aside0.mk (blk_below (g := gb213) (o := .cells #[.int .i64 t207, .int .i64 t208, .slice Ao404 x214002_5.length co404] 24 (0, 0)) (by (with_reducible repeat (first | refine blk_drewN ?_ _ | refine blk_drew ?_ | refine blk_alloc ?_ _)); exact BK213.out) hb)
              have n12_ := Aside0.mk (blk_below (g := gb220) (o := .cells #[.int .i64 t214, .int .i64 t215, u221002] 24 (0, 0)) (by (with_reducible repeat (first | refine blk_drewN ?_ _ | refine blk_drew ?_ | refine blk_alloc ?_ _)); exact BK220.out) hb)
              have n13_ := Aside0.mk (blk_below (g := gb233) (o := .cells #[.int .i64 t228, .int .i64 t229, u234002] 24 (0, 0)) (by (with_reducible repeat (first | refine blk_drewN ?_ _ | refine blk_drew ?_ | refine blk_alloc ?_ _)); exact BK233.out) hb)
              have n14_ := Aside0.mk (below_step (by repeat (first | (with_reducible first | exact HB.out | apply below_alloc | apply pw_below_drewN | apply below_drew1 | refine below_set ?_ GE181.out | refine below_set ?_ GE182.out | refine below_set ?_ GE192.out | refine below_set ?_ GE199.out | refine below_set ?_ GE206.out | refine below_set ?_ GE213.out | refine below_set ?_ GE220.out | refine below_set ?_ GE233.out) | exact HB.out)) hb)
              clear HO_193002
              clear HO_200002
              clear HO_207002
              clear HO_214002
              clear HO_221002
              clear HO_234002
              clear BK181
              clear BK182
              clear BK192
              clear BK199
              clear BK206
              clear BK213
              clear BK220
              clear BK233
              clear HB
              have HO_193002 := n0_
              have HO_200002 := n1_
              have HO_207002 := n2_
              have HO_214002 := n3_
              have HO_221002 := n4_
              have HO_234002 := n5_
              have BK181 := n6_
              have BK182 := n7_
              have BK192 := n8_
              have BK199 := n9_
              have BK206 := n10_
              have BK213 := n11_
              have BK220 := n12_
              have BK233 := n13_
              have HB := n14_
              clear n0_ n1_ n2_ n3_ n4_ n5_ n6_ n7_ n8_ n9_ n10_ n11_ n12_ n13_ n14_
              (try clear hb)
              (try clear hb2)
              (try clear hk)
              (try clear hi)
              refine hK.out _ _ ⟨(blk_cell BK192.out 0).trans rfl, (blk_cell BK192.out 1).trans rfl, (blk_cell BK192.out 2).trans rfl, (blk_cell BK181.out 0).trans rfl, (blk_cell BK181.out 1).trans rfl, (blk_cell BK181.out 2).trans rfl, (blk_cell BK182.out 0).trans rfl, (blk_cell BK182.out 1).trans rfl, (blk_cell BK182.out 2).trans rfl⟩ (fun hHeld => ?_)
              clear hK K
              refine norm_ (a' := ?_) ?_ ?_
              rotate_left
              · show Act.put _ (some 172) _ = _
                simp only [Act.put, List.setIfInBounds_toArray, List.set_cons_zero, List.set_cons_succ, i64_w, i32_w]
                rfl
              refine one_ (i := 7) (N := some 174) #[true, true, true, true, true, true, true, true, false, false, false, false, false, false, false, false, false, false, false, false, false, false, false, false, false, false, false, false, false] rfl rfl (one_of HT_.out (by kernel_rfl)) (by decide) (fun K hK => ?_)
              refine goes_ Try.func19 (by kernel_rfl) rfl #[.agg #[.int .i64 a0_0, .int .i64 a0_1, .slice A0_2 l0_2.length c0_2]] (by rfl) rfl rfl (by (try simp only [List.map_toArray, List.map_cons, List.map_nil]); first | done | rfl | (simp only [List.length_drop, List.length_take]; rfl)) ?_
              with_reducible refine (meterref17_Right.calls k5 a0_0 a0_1 _ _ l0_2 t239 _ ?side1 ?side2 A389.out).mono ?_
              (case side1 => repeat (first | exact (Kd.C_below HR0_2.out HB.out) | (with_reducible refine Kd.C_alloc ?_ _) | (with_reducible refine Kd.C_drewN ?_ _) | (with_reducible refine Kd.C_drew ?_)))
              (case side2 => exact HC0_2.out)
              rintro e w409 ⟨rfl, hb⟩
              refine ⟨_, rfl, ?_⟩
              have n0_ := Aside0.mk (Kd.R_below (by (with_reducible repeat (first | apply Kd.R_alloc | apply Kd.R_drewN | apply Kd.R_drew)); exact HO_193002.out) hb)
              have n1_ := Aside0.mk (Kd.R_below (by (with_reducible repeat (first | apply Kd.R_alloc | apply Kd.R_drewN | apply Kd.R_drew)); exact HO_200002.out) hb)
              have n2_ := Aside0.mk (Kd.R_below (by (with_reducible repeat (first | apply Kd.R_alloc | apply Kd.R_drewN | apply Kd.R_drew)); exact HO_207002.out) hb)
              have n3_ := Aside0.mk (Kd.R_below (by (with_reducible repeat (first | apply Kd.R_alloc | apply Kd.R_drewN | apply Kd.R_drew)); exact HO_214002.out) hb)
              have n4_ := Aside0.mk (Kd.R_below (by (with_reducible repeat (first | apply Kd.R_alloc | apply Kd.R_drewN | apply Kd.R_drew)); exact HO_221002.out) hb)
              have n5_ := Aside0.mk (Kd.R_below (by (with_reducible repeat (first | apply Kd.R_alloc | apply Kd.R_drewN | apply Kd.R_drew)); exact HO_234002.out) hb)
              have n6_ := Aside0.mk (blk_below (g := gb181) (o := .cells #[.int .i64 a0_0, .int .i64 a0_1, .slice A0_2 l0_2.length c0_2] 24 (0, 0)) (by (with_reducible repeat (first | refine blk_drewN ?_ _ | refine blk_drew ?_ | refine blk_alloc ?_ _)); exact BK181.out) hb)
              have n7_ := Aside0.mk (blk_below (g := gb182) (o := .cells #[.int .i64 a1_0, .int .i64 a1_1, .slice A1_2 l1_2.length c1_2] 24 (0, 0)) (by (with_reducible repeat (first | refine blk_drewN ?_ _ | refine blk_drew ?_ | refine blk_alloc ?_ _)); exact BK182.out) hb)
              have n8_ := Aside0.mk (blk_below (g := gb192) (o := .cells #[.int .i64 a0_0, .int .i64 a0_1, .slice Ao406 x193002_5.length co406] 24 (0, 0)) (by (with_reducible repeat (first | refine blk_drewN ?_ _ | refine blk_drew ?_ | refine blk_alloc ?_ _)); exact BK192.out) hb)
              have n9_ := Aside0.mk (blk_below (g := gb199) (o := .cells #[.int .i64 t193, .int .i64 t194, u200002] 24 (0, 0)) (by (with_reducible repeat (first | refine blk_drewN ?_ _ | refine blk_drew ?_ | refine blk_alloc ?_ _)); exact BK199.out) hb)
              have n10_ := Aside0.mk (blk_below (g := gb206) (o := .cells #[.int .i64 t200, .int .i64 t201, u207002] 24 (0, 0)) (by (with_reducible repeat (first | refine blk_drewN ?_ _ | refine blk_drew ?_ | refine blk_alloc ?_ _)); exact BK206.out) hb)
              have n11_ := Aside0.mk (blk_below (g := gb213) (o := .cells #[.int .i64 t207, .int .i64 t208, .slice Ao404 x214002_5.length co404] 24 (0, 0)) (by (with_reducible repeat (first | refine blk_drewN ?_ _ | refine blk_drew ?_ | refine blk_alloc ?_ _)); exact BK213.out) hb)
              have n12_ := Aside0.mk (blk_below (g := gb220) (o := .cells #[.int .i64 t214, .int .i64 t215, u221002] 24 (0, 0)) (by (with_reducible repeat (first | refine blk_drewN ?_ _ | refine blk_drew ?_ | refine blk_alloc ?_ _)); exact BK220.out) hb)
              have n13_ := Aside0.mk (blk_below (g := gb233) (o := .cells #[.int .i64 t228, .int .i64 t229, u234002] 24 (0, 0)) (by (with_reducible repeat (first | refine blk_drewN ?_ _ | refine blk_drew ?_ | refine blk_alloc ?_ _)); exact BK233.out) hb)
              have n14_ := Aside0.mk (below_step (by repeat (first | (with_reducible first | exact HB.out | apply below_alloc | apply pw_below_drewN | apply below_drew1 | refine below_set ?_ GE181.out | refine below_set ?_ GE182.out | refine below_set ?_ GE192.out | refine below_set ?_ GE199.out | refine below_set ?_ GE206.out | refine below_set ?_ GE213.out | refine below_set ?_ GE220.out | refine below_set ?_ GE233.out) | exact HB.out)) hb)
              clear HO_193002
              clear HO_200002
              clear HO_207002
              clear HO_214002
              clear HO_221002
              clear HO_234002
              clear BK181
              clear BK182
              clear BK192
              clear BK199
              clear BK206
              clear BK213
              clear BK220
              clear BK233
              clear HB
              have HO_193002 := n0_
              have HO_200002 := n1_
              have HO_207002 := n2_
              have HO_214002 := n3_
              have HO_221002 := n4_
              have HO_234002 := n5_
              have BK181 := n6_
              have BK182 := n7_
              have BK192 := n8_
              have BK199 := n9_
              have BK206 := n10_
              have BK213 := n11_
              have BK220 := n12_
              have BK233 := n13_
              have HB := n14_
              clear n0_ n1_ n2_ n3_ n4_ n5_ n6_ n7_ n8_ n9_ n10_ n11_ n12_ n13_ n14_
              (try clear hb)
              (try clear hb2)
              (try clear hk)
              (try clear hi)
              refine hK.out _ _ ⟨(blk_cell BK192.out 0).trans rfl, (blk_cell BK192.out 1).trans rfl, (blk_cell BK192.out 2).trans rfl, (blk_cell BK181.out 0).trans rfl, (blk_cell BK181.out 1).trans rfl, (blk_cell BK181.out 2).trans rfl, (blk_cell BK182.out 0).trans rfl, (blk_cell BK182.out 1).trans rfl, (blk_cell BK182.out 2).trans rfl⟩ (fun hHeld => ?_)
              clear hK K
              refine norm_ (a' := ?_) ?_ ?_
              rotate_left
              · show Act.put _ (some 174) _ = _
                simp only [Act.put, List.setIfInBounds_toArray, List.set_cons_zero, List.set_cons_succ, i64_w, i32_w]
                rfl
              refine pure_ (i := 8) (N := some 175) (v := ?_) (a' := ?_) #[true, true, true, true, true, true, true, true, true, false, false, false, false, false, false, false, false, false, false, false, false, false, false, false, false, false, false, false, false] rfl rfl (any_of HT_.out (by kernel_rfl)) (fun _ _ _ h => h) (Or.inl ⟨by rfl, ?_⟩) ?_ ?_
              rotate_left
              · intro w'
                go_simp
                with_reducible rfl
              rotate_left
              · simp only [Act.put, List.setIfInBounds_toArray, List.set_cons_zero, List.set_cons_succ, i64_w, i32_w]
                rfl
              refine pure_ (i := 9) (N := some 176) (v := ?_) (a' := ?_) #[true, true, true, true, true, true, true, true, true, true, false, false, false, false, false, false, false, false, false, false, false, false, false, false, false, false, false, false, false] rfl rfl (any_of HT_.out (by kernel_rfl)) (fun _ _ _ h => h) (Or.inl ⟨by rfl, ?_⟩) ?_ ?_
              rotate_left
              · intro w'
                go_simp
                with_reducible rfl
              rotate_left
              · simp only [Act.put, List.setIfInBounds_toArray, List.set_cons_zero, List.set_cons_succ, i64_w, i32_w]
                rfl
              refine pure_ (i := 10) (N := some 177) (v := ?_) (a' := ?_) #[true, true, true, true, true, true, true, true, true, true, true, false, false, false, false, false, false, false, false, false, false, false, false, false, false, false, false, false, false] rfl rfl (any_of HT_.out (by kernel_rfl)) (fun _ _ _ h => h) (Or.inl ⟨by rfl, ?_⟩) ?_ ?_
              rotate_left
              · intro w'
                go_simp
                with_reducible rfl
              rotate_left
              · simp only [Act.put, List.setIfInBounds_toArray, List.set_cons_zero, List.set_cons_succ, i64_w, i32_w]
                rfl
              refine take_ (i := 11) (N := some 178) (v := ?_) (a' := ?_) #[true, true, true, true, true, true, true, true, true, true, true, true, false, false, false, false, false, false, false, false, false, false, false, false, false, false, false, false, false] rfl rfl (take_ofW HT_.out HW_.out (by kernel_rfl)) (fun _ _ _ h => h) (Or.inl ⟨by rfl, ?_⟩) hHeld ?_ ?_
              rotate_left
              · rintro w' ⟨s0, s1, s2, s3, s4, s5, s6, s7, s8⟩
                go_simp
                with_reducible rfl
              rotate_left
              · simp only [Act.put, List.setIfInBounds_toArray, List.set_cons_zero, List.set_cons_succ, i64_w, i32_w]
                rfl
              refine take_ (i := 12) (N := some 179) (v := ?_) (a' := ?_) #[true, true, true, true, true, true, true, true, true, true, true, true, true, false, false, false, false, false, false, false, false, false, false, false, false, false, false, false, false] rfl rfl (take_ofW HT_.out HW_.out (by kernel_rfl)) (fun _ _ _ h => h) (Or.inl ⟨by rfl, ?_⟩) hHeld ?_ ?_
              rotate_left
              · rintro w' ⟨s0, s1, s2, s3, s4, s5, s6, s7, s8⟩
                go_simp
                with_reducible rfl
              rotate_left
              · simp only [Act.put, List.setIfInBounds_toArray, List.set_cons_zero, List.set_cons_succ, i64_w, i32_w]
                rfl
              refine take_ (i := 14) (N := some 181) (v := ?_) (a' := ?_) #[true, true, true, true, true, true, true, true, true, true, true, true, true, false, true, false, false, false, false, false, false, false, false, false, false, false, false, false, false] rfl rfl (take_ofW HT_.out HW_.out (by kernel_rfl)) (fun _ _ _ h => h) (Or.inl ⟨by rfl, ?_⟩) hHeld ?_ ?_
              rotate_left
              · rintro w' ⟨s0, s1, s2, s3, s4, s5, s6, s7, s8⟩
                go_simp
                with_reducible rfl
              rotate_left
              · simp only [Act.put, List.setIfInBounds_toArray, List.set_cons_zero, List.set_cons_succ, i64_w, i32_w]
                rfl
              refine take_ (i := 15) (N := some 182) (v := ?_) (a' := ?_) #[true, true, true, true, true, true, true, true, true, true, true, true, true, false, true, true, false, false, false, false, false, false, false, false, false, false, false, false, false] rfl rfl (take_ofW HT_.out HW_.out (by kernel_rfl)) (fun _ _ _ h => h) (Or.inl ⟨by rfl, ?_⟩) hHeld ?_ ?_
              rotate_left
              · rintro w' ⟨s0, s1, s2, s3, s4, s5, s6, s7, s8⟩
                go_simp
                with_reducible rfl
              rotate_left
              · simp only [Act.put, List.setIfInBounds_toArray, List.set_cons_zero, List.set_cons_succ, i64_w, i32_w]
                rfl
              refine one_ (i := 13) (N := some 180) #[true, true, true, true, true, true, true, true, true, true, true, true, true, true, true, true, false, false, false, false, false, false, false, false, false, false, false, false, false] rfl rfl (one_of HT_.out (by kernel_rfl)) (by decide) (fun K hK => ?_)
              refine goes_ Try.func21 (by kernel_rfl) rfl #[.agg #[.int .i64 a0_0, .int .i64 a0_1, .slice A0_2 l0_2.length c0_2], .agg #[.int .i64 a1_0, .int .i64 a1_1, .slice A1_2 l1_2.length c1_2]] (by rfl) rfl rfl (by (try simp only [List.map_toArray, List.map_cons, List.map_nil]); first | done | rfl | (simp only [List.length_drop, List.length_take]; rfl)) ?_
              with_reducible refine (table_Same.calls k5 a0_0 a0_1 _ _ l0_2 a1_0 a1_1 _ _ l1_2 t240 _ ?side1 ?side2 ?side3 ?side4 A391.out).mono ?_
              (case side1 => repeat (first | exact (Kd.C_below HR0_2.out HB.out) | (with_reducible refine Kd.C_alloc ?_ _) | (with_reducible refine Kd.C_drewN ?_ _) | (with_reducible refine Kd.C_drew ?_)))
              (case side2 => exact HC0_2.out)
              (case side3 => repeat (first | exact (Kd.C_below HR1_2.out HB.out) | (with_reducible refine Kd.C_alloc ?_ _) | (with_reducible refine Kd.C_drewN ?_ _) | (with_reducible refine Kd.C_drew ?_)))
              (case side4 => exact HC1_2.out)
              rintro e w410 ⟨rfl, hb⟩
              refine ⟨_, rfl, ?_⟩
              have n0_ := Aside0.mk (Kd.R_below (by (with_reducible repeat (first | apply Kd.R_alloc | apply Kd.R_drewN | apply Kd.R_drew)); exact HO_193002.out) hb)
              have n1_ := Aside0.mk (Kd.R_below (by (with_reducible repeat (first | apply Kd.R_alloc | apply Kd.R_drewN | apply Kd.R_drew)); exact HO_200002.out) hb)
              have n2_ := Aside0.mk (Kd.R_below (by (with_reducible repeat (first | apply Kd.R_alloc | apply Kd.R_drewN | apply Kd.R_drew)); exact HO_207002.out) hb)
              have n3_ := Aside0.mk (Kd.R_below (by (with_reducible repeat (first | apply Kd.R_alloc | apply Kd.R_drewN | apply Kd.R_drew)); exact HO_214002.out) hb)
              have n4_ := Aside0.mk (Kd.R_below (by (with_reducible repeat (first | apply Kd.R_alloc | apply Kd.R_drewN | apply Kd.R_drew)); exact HO_221002.out) hb)
              have n5_ := Aside0.mk (Kd.R_below (by (with_reducible repeat (first | apply Kd.R_alloc | apply Kd.R_drewN | apply Kd.R_drew)); exact HO_234002.out) hb)
              have n6_ := Aside0.mk (blk_below (g := gb181) (o := .cells #[.int .i64 a0_0, .int .i64 a0_1, .slice A0_2 l0_2.length c0_2] 24 (0, 0)) (by (with_reducible repeat (first | refine blk_drewN ?_ _ | refine blk_drew ?_ | refine blk_alloc ?_ _)); exact BK181.out) hb)
              have n7_ := Aside0.mk (blk_below (g := gb182) (o := .cells #[.int .i64 a1_0, .int .i64 a1_1, .slice A1_2 l1_2.length c1_2] 24 (0, 0)) (by (with_reducible repeat (first | refine blk_drewN ?_ _ | refine blk_drew ?_ | refine blk_alloc ?_ _)); exact BK182.out) hb)
              have n8_ := Aside0.mk (blk_below (g := gb192) (o := .cells #[.int .i64 a0_0, .int .i64 a0_1, .slice Ao406 x193002_5.length co406] 24 (0, 0)) (by (with_reducible repeat (first | refine blk_drewN ?_ _ | refine blk_drew ?_ | refine blk_alloc ?_ _)); exact BK192.out) hb)
              have n9_ := Aside0.mk (blk_below (g := gb199) (o := .cells #[.int .i64 t193, .int .i64 t194, u200002] 24 (0, 0)) (by (with_reducible repeat (first | refine blk_drewN ?_ _ | refine blk_drew ?_ | refine blk_alloc ?_ _)); exact BK199.out) hb)
              have n10_ := Aside0.mk (blk_below (g := gb206) (o := .cells #[.int .i64 t200, .int .i64 t201, u207002] 24 (0, 0)) (by (with_reducible repeat (first | refine blk_drewN ?_ _ | refine blk_drew ?_ | refine blk_alloc ?_ _)); exact BK206.out) hb)
              have n11_ := Aside0.mk (blk_below (g := gb213) (o := .cells #[.int .i64 t207, .int .i64 t208, .slice Ao404 x214002_5.length co404] 24 (0, 0)) (by (with_reducible repeat (first | refine blk_drewN ?_ _ | refine blk_drew ?_ | refine blk_alloc ?_ _)); exact BK213.out) hb)
              have n12_ := Aside0.mk (blk_below (g := gb220) (o := .cells #[.int .i64 t214, .int .i64 t215, u221002] 24 (0, 0)) (by (with_reducible repeat (first | refine blk_drewN ?_ _ | refine blk_drew ?_ | refine blk_alloc ?_ _)); exact BK220.out) hb)
              have n13_ := Aside0.mk (blk_below (g := gb233) (o := .cells #[.int .i64 t228, .int .i64 t229, u234002] 24 (0, 0)) (by (with_reducible repeat (first | refine blk_drewN ?_ _ | refine blk_drew ?_ | refine blk_alloc ?_ _)); exact BK233.out) hb)
              have n14_ := Aside0.mk (below_step (by repeat (first | (with_reducible first | exact HB.out | apply below_alloc | apply pw_below_drewN | apply below_drew1 | refine below_set ?_ GE181.out | refine below_set ?_ GE182.out | refine below_set ?_ GE192.out | refine below_set ?_ GE199.out | refine below_set ?_ GE206.out | refine below_set ?_ GE213.out | refine below_set ?_ GE220.out | refine below_set ?_ GE233.out) | exact HB.out)) hb)
              clear HO_193002
              clear HO_200002
              clear HO_207002
              clear HO_214002
              clear HO_221002
              clear HO_234002
              clear BK181
              clear BK182
              clear BK192
              clear BK199
              clear BK206
              clear BK213
              clear BK220
              clear BK233
              clear HB
              have HO_193002 := n0_
              have HO_200002 := n1_
              have HO_207002 := n2_
              have HO_214002 := n3_
              have HO_221002 := n4_
              have HO_234002 := n5_
              have BK181 := n6_
              have BK182 := n7_
              have BK192 := n8_
              have BK199 := n9_
              have BK206 := n10_
              have BK213 := n11_
              have BK220 := n12_
              have BK233 := n13_
              have HB := n14_
              clear n0_ n1_ n2_ n3_ n4_ n5_ n6_ n7_ n8_ n9_ n10_ n11_ n12_ n13_ n14_
              (try clear hb)
              (try clear hb2)
              (try clear hk)
              (try clear hi)
              refine hK.out _ _ ⟨(blk_cell BK192.out 0).trans rfl, (blk_cell BK192.out 1).trans rfl, (blk_cell BK192.out 2).trans rfl, (blk_cell BK181.out 0).trans rfl, (blk_cell BK181.out 1).trans rfl, (blk_cell BK181.out 2).trans rfl, (blk_cell BK182.out 0).trans rfl, (blk_cell BK182.out 1).trans rfl, (blk_cell BK182.out 2).trans rfl⟩ (fun hHeld => ?_)
              clear hK K
              refine norm_ (a' := ?_) ?_ ?_
              rotate_left
              · show Act.put _ (some 180) _ = _
                simp only [Act.put, List.setIfInBounds_toArray, List.set_cons_zero, List.set_cons_succ, i64_w, i32_w]
                rfl
              refine one_ (i := 16) (N := some 183) #[true, true, true, true, true, true, true, true, true, true, true, true, true, true, true, true, true, false, false, false, false, false, false, false, false, false, false, false, false] rfl rfl (one_of HT_.out (by kernel_rfl)) (by decide) (fun K hK => ?_)
              refine goes_ Try.func15 (by kernel_rfl) rfl #[.agg #[.int .i64 a0_0, .int .i64 a0_1, .slice A0_2 l0_2.length c0_2], .agg #[.int .i64 a1_0, .int .i64 a1_1, .slice A1_2 l1_2.length c1_2]] (by rfl) rfl rfl (by (try simp only [List.map_toArray, List.map_cons, List.map_nil]); first | done | rfl | (simp only [List.length_drop, List.length_take]; rfl)) ?_
              with_reducible refine (meterref17_Same.calls k5 a0_0 a0_1 _ _ l0_2 a1_0 a1_1 _ _ l1_2 t241 _ ?side1 ?side2 ?side3 ?side4 A392.out).mono ?_
              (case side1 => repeat (first | exact (Kd.C_below HR0_2.out HB.out) | (with_reducible refine Kd.C_alloc ?_ _) | (with_reducible refine Kd.C_drewN ?_ _) | (with_reducible refine Kd.C_drew ?_)))
              (case side2 => exact HC0_2.out)
              (case side3 => repeat (first | exact (Kd.C_below HR1_2.out HB.out) | (with_reducible refine Kd.C_alloc ?_ _) | (with_reducible refine Kd.C_drewN ?_ _) | (with_reducible refine Kd.C_drew ?_)))
              (case side4 => exact HC1_2.out)
              rintro e w411 ⟨rfl, hb⟩
              refine ⟨_, rfl, ?_⟩
              have n0_ := Aside0.mk (Kd.R_below (by (with_reducible repeat (first | apply Kd.R_alloc | apply Kd.R_drewN | apply Kd.R_drew)); exact HO_193002.out) hb)
              have n1_ := Aside0.mk (Kd.R_below (by (with_reducible repeat (first | apply Kd.R_alloc | apply Kd.R_drewN | apply Kd.R_drew)); exact HO_200002.out) hb)
              have n2_ := Aside0.mk (Kd.R_below (by (with_reducible repeat (first | apply Kd.R_alloc | apply Kd.R_drewN | apply Kd.R_drew)); exact HO_207002.out) hb)
              have n3_ := Aside0.mk (Kd.R_below (by (with_reducible repeat (first | apply Kd.R_alloc | apply Kd.R_drewN | apply Kd.R_drew)); exact HO_214002.out) hb)
              have n4_ := Aside0.mk (Kd.R_below (by (with_reducible repeat (first | apply Kd.R_alloc | apply Kd.R_drewN | apply Kd.R_drew)); exact HO_221002.out) hb)
              have n5_ := Aside0.mk (Kd.R_below (by (with_reducible repeat (first | apply Kd.R_alloc | apply Kd.R_drewN | apply Kd.R_drew)); exact HO_234002.out) hb)
              have n6_ := Aside0.mk (blk_below (g := gb181) (o := .cells #[.int .i64 a0_0, .int .i64 a0_1, .slice A0_2 l0_2.length c0_2] 24 (0, 0)) (by (with_reducible repeat (first | refine blk_drewN ?_ _ | refine blk_drew ?_ | refine blk_alloc ?_ _)); exact BK181.out) hb)
              have n7_ := Aside0.mk (blk_below (g := gb182) (o := .cells #[.int .i64 a1_0, .int .i64 a1_1, .slice A1_2 l1_2.length c1_2] 24 (0, 0)) (by (with_reducible repeat (first | refine blk_drewN ?_ _ | refine blk_drew ?_ | refine blk_alloc ?_ _)); exact BK182.out) hb)
              have n8_ := Aside0.mk (blk_below (g := gb192) (o := .cells #[.int .i64 a0_0, .int .i64 a0_1, .slice Ao406 x193002_5.length co406] 24 (0, 0)) (by (with_reducible repeat (first | refine blk_drewN ?_ _ | refine blk_drew ?_ | refine blk_alloc ?_ _)); exact BK192.out) hb)
              have n9_ := Aside0.mk (blk_below (g := gb199) (o := .cells #[.int .i64 t193, .int .i64 t194, u200002] 24 (0, 0)) (by (with_reducible repeat (first | refine blk_drewN ?_ _ | refine blk_drew ?_ | refine blk_alloc ?_ _)); exact BK199.out) hb)
              have n10_ := Aside0.mk (blk_below (g := gb206) (o := .cells #[.int .i64 t200, .int .i64 t201, u207002] 24 (0, 0)) (by (with_reducible repeat (first | refine blk_drewN ?_ _ | refine blk_drew ?_ | refine blk_alloc ?_ _)); exact BK206.out) hb)
              have n11_ := Aside0.mk (blk_below (g := gb213) (o := .cells #[.int .i64 t207, .int .i64 t208, .slice Ao404 x214002_5.length co404] 24 (0, 0)) (by (with_reducible repeat (first | refine blk_drewN ?_ _ | refine blk_drew ?_ | refine blk_alloc ?_ _)); exact BK213.out) hb)
              have n12_ := Aside0.mk (blk_below (g := gb220) (o := .cells #[.int .i64 t214, .int .i64 t215, u221002] 24 (0, 0)) (by (with_reducible repeat (first | refine blk_drewN ?_ _ | refine blk_drew ?_ | refine blk_alloc ?_ _)); exact BK220.out) hb)
              have n13_ := Aside0.mk (blk_below (g := gb233) (o := .cells #[.int .i64 t228, .int .i64 t229, u234002] 24 (0, 0)) (by (with_reducible repeat (first | refine blk_drewN ?_ _ | refine blk_drew ?_ | refine blk_alloc ?_ _)); exact BK233.out) hb)
              have n14_ := Aside0.mk (below_step (by repeat (first | (with_reducible first | exact HB.out | apply below_alloc | apply pw_below_drewN | apply below_drew1 | refine below_set ?_ GE181.out | refine below_set ?_ GE182.out | refine below_set ?_ GE192.out | refine below_set ?_ GE199.out | refine below_set ?_ GE206.out | refine below_set ?_ GE213.out | refine below_set ?_ GE220.out | refine below_set ?_ GE233.out) | exact HB.out)) hb)
              clear HO_193002
              clear HO_200002
              clear HO_207002
              clear HO_214002
              clear HO_221002
              clear HO_234002
              clear BK181
              clear BK182
              clear BK192
              clear BK199
              clear BK206
              clear BK213
              clear BK220
              clear BK233
              clear HB
              have HO_193002 := n0_
              have HO_200002 := n1_
              have HO_207002 := n2_
              have HO_214002 := n3_
              have HO_221002 := n4_
              have HO_234002 := n5_
              have BK181 := n6_
              have BK182 := n7_
              have BK192 := n8_
              have BK199 := n9_
              have BK206 := n10_
              have BK213 := n11_
              have BK220 := n12_
              have BK233 := n13_
              have HB := n14_
              clear n0_ n1_ n2_ n3_ n4_ n5_ n6_ n7_ n8_ n9_ n10_ n11_ n12_ n13_ n14_
              (try clear hb)
              (try clear hb2)
              (try clear hk)
              (try clear hi)
              refine hK.out _ _ ⟨(blk_cell BK192.out 0).trans rfl, (blk_cell BK192.out 1).trans rfl, (blk_cell BK192.out 2).trans rfl, (blk_cell BK181.out 0).trans rfl, (blk_cell BK181.out 1).trans rfl, (blk_cell BK181.out 2).trans rfl, (blk_cell BK182.out 0).trans rfl, (blk_cell BK182.out 1).trans rfl, (blk_cell BK182.out 2).trans rfl⟩ (fun hHeld => ?_)
              clear hK K
              refine norm_ (a' := ?_) ?_ ?_
              rotate_left
              · show Act.put _ (some 183) _ = _
                simp only [Act.put, List.setIfInBounds_toArray, List.set_cons_zero, List.set_cons_succ, i64_w, i32_w]
                rfl
              refine pure_ (i := 17) (N := some 184) (v := ?_) (a' := ?_) #[true, true, true, true, true, true, true, true, true, true, true, true, true, true, true, true, true, true, false, false, false, false, false, false, false, false, false, false, false] rfl rfl (any_of HT_.out (by kernel_rfl)) (fun _ _ _ h => h) (Or.inl ⟨by rfl, ?_⟩) ?_ ?_
              rotate_left
              · intro w'
                go_simp
                with_reducible rfl
              rotate_left
              · simp only [Act.put, List.setIfInBounds_toArray, List.set_cons_zero, List.set_cons_succ, i64_w, i32_w]
                rfl
              refine pure_ (i := 18) (N := some 185) (v := ?_) (a' := ?_) #[true, true, true, true, true, true, true, true, true, true, true, true, true, true, true, true, true, true, true, false, false, false, false, false, false, false, false, false, false] rfl rfl (any_of HT_.out (by kernel_rfl)) (fun _ _ _ h => h) (Or.inl ⟨by rfl, ?_⟩) ?_ ?_
              rotate_left
              · intro w'
                go_simp
                with_reducible rfl
              rotate_left
              · simp only [Act.put, List.setIfInBounds_toArray, List.set_cons_zero, List.set_cons_succ, i64_w, i32_w]
                rfl
              refine pure_ (i := 19) (N := some 186) (v := ?_) (a' := ?_) #[true, true, true, true, true, true, true, true, true, true, true, true, true, true, true, true, true, true, true, true, false, false, false, false, false, false, false, false, false] rfl rfl (any_of HT_.out (by kernel_rfl)) (fun _ _ _ h => h) (Or.inl ⟨by rfl, ?_⟩) ?_ ?_
              rotate_left
              · intro w'
                go_simp
                with_reducible rfl
              rotate_left
              · simp only [Act.put, List.setIfInBounds_toArray, List.set_cons_zero, List.set_cons_succ, i64_w, i32_w]
                rfl
              refine take_ (i := 20) (N := some 187) (v := ?_) (a' := ?_) #[true, true, true, true, true, true, true, true, true, true, true, true, true, true, true, true, true, true, true, true, true, false, false, false, false, false, false, false, false] rfl rfl (take_ofW HT_.out HW_.out (by kernel_rfl)) (fun _ _ _ h => h) (Or.inl ⟨by rfl, ?_⟩) hHeld ?_ ?_
              rotate_left
              · rintro w' ⟨s0, s1, s2, s3, s4, s5, s6, s7, s8⟩
                go_simp
                with_reducible rfl
              rotate_left
              · simp only [Act.put, List.setIfInBounds_toArray, List.set_cons_zero, List.set_cons_succ, i64_w, i32_w]
                rfl
              refine take_ (i := 21) (N := some 188) (v := ?_) (a' := ?_) #[true, true, true, true, true, true, true, true, true, true, true, true, true, true, true, true, true, true, true, true, true, true, false, false, false, false, false, false, false] rfl rfl (take_ofW HT_.out HW_.out (by kernel_rfl)) (fun _ _ _ h => h) (Or.inl ⟨by rfl, ?_⟩) hHeld ?_ ?_
              rotate_left
              · rintro w' ⟨s0, s1, s2, s3, s4, s5, s6, s7, s8⟩
                go_simp
                with_reducible rfl
              rotate_left
              · simp only [Act.put, List.setIfInBounds_toArray, List.set_cons_zero, List.set_cons_succ, i64_w, i32_w]
                rfl
              refine take_ (i := 23) (N := some 190) (v := ?_) (a' := ?_) #[true, true, true, true, true, true, true, true, true, true, true, true, true, true, true, true, true, true, true, true, true, true, false, true, false, false, false, false, false] rfl rfl (take_ofW HT_.out HW_.out (by kernel_rfl)) (fun _ _ _ h => h) (Or.inl ⟨by rfl, ?_⟩) hHeld ?_ ?_
              rotate_left
              · rintro w' ⟨s0, s1, s2, s3, s4, s5, s6, s7, s8⟩
                go_simp
                with_reducible rfl
              rotate_left
              · simp only [Act.put, List.setIfInBounds_toArray, List.set_cons_zero, List.set_cons_succ, i64_w, i32_w]
                rfl
              refine take_ (i := 24) (N := some 191) (v := ?_) (a' := ?_) #[true, true, true, true, true, true, true, true, true, true, true, true, true, true, true, true, true, true, true, true, true, true, false, true, true, false, false, false, false] rfl rfl (take_ofW HT_.out HW_.out (by kernel_rfl)) (fun _ _ _ h => h) (Or.inl ⟨by rfl, ?_⟩) hHeld ?_ ?_
              rotate_left
              · rintro w' ⟨s0, s1, s2, s3, s4, s5, s6, s7, s8⟩
                go_simp
                with_reducible rfl
              rotate_left
              · simp only [Act.put, List.setIfInBounds_toArray, List.set_cons_zero, List.set_cons_succ, i64_w, i32_w]
                rfl
              refine one_ (i := 22) (N := some 189) #[true, true, true, true, true, true, true, true, true, true, true, true, true, true, true, true, true, true, true, true, true, true, true, true, true, false, false, false, false] rfl rfl (one_of HT_.out (by kernel_rfl)) (by decide) (fun K hK => ?_)
              refine goes_ Try.func10 (by kernel_rfl) rfl #[.agg #[.int .i64 a0_0, .int .i64 a0_1, .slice A0_2 l0_2.length c0_2], .agg #[.int .i64 a1_0, .int .i64 a1_1, .slice A1_2 l1_2.length c1_2]] (by rfl) rfl rfl (by (try simp only [List.map_toArray, List.map_cons, List.map_nil]); first | done | rfl | (simp only [List.length_drop, List.length_take]; rfl)) ?_
              with_reducible refine (table_Newer.calls a0_0 a0_1 _ _ l0_2 a1_0 a1_1 _ _ l1_2 t242 _ ?side1 ?side2 ?side3 ?side4 A394.out).mono ?_
              (case side1 => repeat (first | exact (Kd.C_below HR0_2.out HB.out) | (with_reducible refine Kd.C_alloc ?_ _) | (with_reducible refine Kd.C_drewN ?_ _) | (with_reducible refine Kd.C_drew ?_)))
              (case side2 => exact HC0_2.out)
              (case side3 => repeat (first | exact (Kd.C_below HR1_2.out HB.out) | (with_reducible refine Kd.C_alloc ?_ _) | (with_reducible refine Kd.C_drewN ?_ _) | (with_reducible refine Kd.C_drew ?_)))
              (case side4 => exact HC1_2.out)
              rintro e w412 ⟨rfl, hb⟩
              refine ⟨_, rfl, ?_⟩
              have n0_ := Aside0.mk (Kd.R_below (by (with_reducible repeat (first | apply Kd.R_alloc | apply Kd.R_drewN | apply Kd.R_drew)); exact HO_193002.out) hb)
              have n1_ := Aside0.mk (Kd.R_below (by (with_reducible repeat (first | apply Kd.R_alloc | apply Kd.R_drewN | apply Kd.R_drew)); exact HO_200002.out) hb)
              have n2_ := Aside0.mk (Kd.R_below (by (with_reducible repeat (first | apply Kd.R_alloc | apply Kd.R_drewN | apply Kd.R_drew)); exact HO_207002.out) hb)
              have n3_ := Aside0.mk (Kd.R_below (by (with_reducible repeat (first | apply Kd.R_alloc | apply Kd.R_drewN | apply Kd.R_drew)); exact HO_214002.out) hb)
              have n4_ := Aside0.mk (Kd.R_below (by (with_reducible repeat (first | apply Kd.R_alloc | apply Kd.R_drewN | apply Kd.R_drew)); exact HO_221002.out) hb)
              have n5_ := Aside0.mk (Kd.R_below (by (with_reducible repeat (first | apply Kd.R_alloc | apply Kd.R_drewN | apply Kd.R_drew)); exact HO_234002.out) hb)
              have n6_ := Aside0.mk (blk_below (g := gb181) (o := .cells #[.int .i64 a0_0, .int .i64 a0_1, .slice A0_2 l0_2.length c0_2] 24 (0, 0)) (by (with_reducible repeat (first | refine blk_drewN ?_ _ | refine blk_drew ?_ | refine blk_alloc ?_ _)); exact BK181.out) hb)
              have n7_ := Aside0.mk (blk_below (g := gb182) (o := .cells #[.int .i64 a1_0, .int .i64 a1_1, .slice A1_2 l1_2.length c1_2] 24 (0, 0)) (by (with_reducible repeat (first | refine blk_drewN ?_ _ | refine blk_drew ?_ | refine blk_alloc ?_ _)); exact BK182.out) hb)
              have n8_ := Aside0.mk (blk_below (g := gb192) (o := .cells #[.int .i64 a0_0, .int .i64 a0_1, .slice Ao406 x193002_5.length co406] 24 (0, 0)) (by (with_reducible repeat (first | refine blk_drewN ?_ _ | refine blk_drew ?_ | refine blk_alloc ?_ _)); exact BK192.out) hb)
              have n9_ := Aside0.mk (blk_below (g := gb199) (o := .cells #[.int .i64 t193, .int .i64 t194, u200002] 24 (0, 0)) (by (with_reducible repeat (first | refine blk_drewN ?_ _ | refine blk_drew ?_ | refine blk_alloc ?_ _)); exact BK199.out) hb)
              have n10_ := Aside0.mk (blk_below (g := gb206) (o := .cells #[.int .i64 t200, .int .i64 t201, u207002] 24 (0, 0)) (by (with_reducible repeat (first | refine blk_drewN ?_ _ | refine blk_drew ?_ | refine blk_alloc ?_ _)); exact BK206.out) hb)
              have n11_ := Aside0.mk (blk_below (g := gb213) (o := .cells #[.int .i64 t207, .int .i64 t208, .slice Ao404 x214002_5.length co404] 24 (0, 0)) (by (with_reducible repeat (first | refine blk_drewN ?_ _ | refine blk_drew ?_ | refine blk_alloc ?_ _)); exact BK213.out) hb)
              have n12_ := Aside0.mk (blk_below (g := gb220) (o := .cells #[.int .i64 t214, .int .i64 t215, u221002] 24 (0, 0)) (by (with_reducible repeat (first | refine blk_drewN ?_ _ | refine blk_drew ?_ | refine blk_alloc ?_ _)); exact BK220.out) hb)
              have n13_ := Aside0.mk (blk_below (g := gb233) (o := .cells #[.int .i64 t228, .int .i64 t229, u234002] 24 (0, 0)) (by (with_reducible repeat (first | refine blk_drewN ?_ _ | refine blk_drew ?_ | refine blk_alloc ?_ _)); exact BK233.out) hb)
              have n14_ := Aside0.mk (below_step (by repeat (first | (with_reducible first | exact HB.out | apply below_alloc | apply pw_below_drewN | apply below_drew1 | refine below_set ?_ GE181.out | refine below_set ?_ GE182.out | refine below_set ?_ GE192.out | refine below_set ?_ GE199.out | refine below_set ?_ GE206.out | refine below_set ?_ GE213.out | refine below_set ?_ GE220.out | refine below_set ?_ GE233.out) | exact HB.out)) hb)
              clear HO_193002
              clear HO_200002
              clear HO_207002
              clear HO_214002
              clear HO_221002
              clear HO_234002
              clear BK181
              clear BK182
              clear BK192
              clear BK199
              clear BK206
              clear BK213
              clear BK220
              clear BK233
              clear HB
              have HO_193002 := n0_
              have HO_200002 := n1_
              have HO_207002 := n2_
              have HO_214002 := n3_
              have HO_221002 := n4_
              have HO_234002 := n5_
              have BK181 := n6_
              have BK182 := n7_
              have BK192 := n8_
              have BK199 := n9_
              have BK206 := n10_
              have BK213 := n11_
              have BK220 := n12_
              have BK233 := n13_
              have HB := n14_
              clear n0_ n1_ n2_ n3_ n4_ n5_ n6_ n7_ n8_ n9_ n10_ n11_ n12_ n13_ n14_
              (try clear hb)
              (try clear hb2)
              (try clear hk)
              (try clear hi)
              refine hK.out _ _ ⟨(blk_cell BK192.out 0).trans rfl, (blk_cell BK192.out 1).trans rfl, (blk_cell BK192.out 2).trans rfl, (blk_cell BK181.out 0).trans rfl, (blk_cell BK181.out 1).trans rfl, (blk_cell BK181.out 2).trans rfl, (blk_cell BK182.out 0).trans rfl, (blk_cell BK182.out 1).trans rfl, (blk_cell BK182.out 2).trans rfl⟩ (fun hHeld => ?_)
              clear hK K
              refine norm_ (a' := ?_) ?_ ?_
              rotate_left
              · show Act.put _ (some 189) _ = _
                simp only [Act.put, List.setIfInBounds_toArray, List.set_cons_zero, List.set_cons_succ, i64_w, i32_w]
                rfl
              refine one_ (i := 25) (N := some 192) #[true, true, true, true, true, true, true, true, true, true, true, true, true, true, true, true, true, true, true, true, true, true, true, true, true, true, false, false, false] rfl rfl (one_of HT_.out (by kernel_rfl)) (by decide) (fun K hK => ?_)
              refine goes_ Try.func22 (by kernel_rfl) rfl #[.agg #[.int .i64 a0_0, .int .i64 a0_1, .slice A0_2 l0_2.length c0_2], .agg #[.int .i64 a1_0, .int .i64 a1_1, .slice A1_2 l1_2.length c1_2]] (by rfl) rfl rfl (by (try simp only [List.map_toArray, List.map_cons, List.map_nil]); first | done | rfl | (simp only [List.length_drop, List.length_take]; rfl)) ?_
              with_reducible refine (meterref17_Newer.calls k5 a0_0 a0_1 _ _ l0_2 a1_0 a1_1 _ _ l1_2 t243 _ ?side1 ?side2 ?side3 ?side4 A395.out).mono ?_
              (case side1 => repeat (first | exact (Kd.C_below HR0_2.out HB.out) | (with_reducible refine Kd.C_alloc ?_ _) | (with_reducible refine Kd.C_drewN ?_ _) | (with_reducible refine Kd.C_drew ?_)))
              (case side2 => exact HC0_2.out)
              (case side3 => repeat (first | exact (Kd.C_below HR1_2.out HB.out) | (with_reducible refine Kd.C_alloc ?_ _) | (with_reducible refine Kd.C_drewN ?_ _) | (with_reducible refine Kd.C_drew ?_)))
              (case side4 => exact HC1_2.out)
              rintro e w413 ⟨rfl, hb⟩
              refine ⟨_, rfl, ?_⟩
              have n0_ := Aside0.mk (Kd.R_below (by (with_reducible repeat (first | apply Kd.R_alloc | apply Kd.R_drewN | apply Kd.R_drew)); exact HO_193002.out) hb)
              have n1_ := Aside0.mk (Kd.R_below (by (with_reducible repeat (first | apply Kd.R_alloc | apply Kd.R_drewN | apply Kd.R_drew)); exact HO_200002.out) hb)
              have n2_ := Aside0.mk (Kd.R_below (by (with_reducible repeat (first | apply Kd.R_alloc | apply Kd.R_drewN | apply Kd.R_drew)); exact HO_207002.out) hb)
              have n3_ := Aside0.mk (Kd.R_below (by (with_reducible repeat (first | apply Kd.R_alloc | apply Kd.R_drewN | apply Kd.R_drew)); exact HO_214002.out) hb)
              have n4_ := Aside0.mk (Kd.R_below (by (with_reducible repeat (first | apply Kd.R_alloc | apply Kd.R_drewN | apply Kd.R_drew)); exact HO_221002.out) hb)
              have n5_ := Aside0.mk (Kd.R_below (by (with_reducible repeat (first | apply Kd.R_alloc | apply Kd.R_drewN | apply Kd.R_drew)); exact HO_234002.out) hb)
              have n6_ := Aside0.mk (blk_below (g := gb181) (o := .cells #[.int .i64 a0_0, .int .i64 a0_1, .slice A0_2 l0_2.length c0_2] 24 (0, 0)) (by (with_reducible repeat (first | refine blk_drewN ?_ _ | refine blk_drew ?_ | refine blk_alloc ?_ _)); exact BK181.out) hb)
              have n7_ := Aside0.mk (blk_below (g := gb182) (o := .cells #[.int .i64 a1_0, .int .i64 a1_1, .slice A1_2 l1_2.length c1_2] 24 (0, 0)) (by (with_reducible repeat (first | refine blk_drewN ?_ _ | refine blk_drew ?_ | refine blk_alloc ?_ _)); exact BK182.out) hb)
              have n8_ := Aside0.mk (blk_below (g := gb192) (o := .cells #[.int .i64 a0_0, .int .i64 a0_1, .slice Ao406 x193002_5.length co406] 24 (0, 0)) (by (with_reducible repeat (first | refine blk_drewN ?_ _ | refine blk_drew ?_ | refine blk_alloc ?_ _)); exact BK192.out) hb)
              have n9_ := Aside0.mk (blk_below (g := gb199) (o := .cells #[.int .i64 t193, .int .i64 t194, u200002] 24 (0, 0)) (by (with_reducible repeat (first | refine blk_drewN ?_ _ | refine blk_drew ?_ | refine blk_alloc ?_ _)); exact BK199.out) hb)
              have n10_ := Aside0.mk (blk_below (g := gb206) (o := .cells #[.int .i64 t200, .int .i64 t201, u207002] 24 (0, 0)) (by (with_reducible repeat (first | refine blk_drewN ?_ _ | refine blk_drew ?_ | refine blk_alloc ?_ _)); exact BK206.out) hb)
              have n11_ := Aside0.mk (blk_below (g := gb213) (o := .cells #[.int .i64 t207, .int .i64 t208, .slice Ao404 x214002_5.length co404] 24 (0, 0)) (by (with_reducible repeat (first | refine blk_drewN ?_ _ | refine blk_drew ?_ | refine blk_alloc ?_ _)); exact BK213.out) hb)
              have n12_ := Aside0.mk (blk_below (g := gb220) (o := .cells #[.int .i64 t214, .int .i64 t215, u221002] 24 (0, 0)) (by (with_reducible repeat (first | refine blk_drewN ?_ _ | refine blk_drew ?_ | refine blk_alloc ?_ _)); exact BK220.out) hb)
              have n13_ := Aside0.mk (blk_below (g := gb233) (o := .cells #[.int .i64 t228, .int .i64 t229, u234002] 24 (0, 0)) (by (with_reducible repeat (first | refine blk_drewN ?_ _ | refine blk_drew ?_ | refine blk_alloc ?_ _)); exact BK233.out) hb)
              have n14_ := Aside0.mk (below_step (by repeat (first | (with_reducible first | exact HB.out | apply below_alloc | apply pw_below_drewN | apply below_drew1 | refine below_set ?_ GE181.out | refine below_set ?_ GE182.out | refine below_set ?_ GE192.out | refine below_set ?_ GE199.out | refine below_set ?_ GE206.out | refine below_set ?_ GE213.out | refine below_set ?_ GE220.out | refine below_set ?_ GE233.out) | exact HB.out)) hb)
              clear HO_193002
              clear HO_200002
              clear HO_207002
              clear HO_214002
              clear HO_221002
              clear HO_234002
              clear BK181
              clear BK182
              clear BK192
              clear BK199
              clear BK206
              clear BK213
              clear BK220
              clear BK233
              clear HB
              have HO_193002 := n0_
              have HO_200002 := n1_
              have HO_207002 := n2_
              have HO_214002 := n3_
              have HO_221002 := n4_
              have HO_234002 := n5_
              have BK181 := n6_
              have BK182 := n7_
              have BK192 := n8_
              have BK199 := n9_
              have BK206 := n10_
              have BK213 := n11_
              have BK220 := n12_
              have BK233 := n13_
              have HB := n14_
              clear n0_ n1_ n2_ n3_ n4_ n5_ n6_ n7_ n8_ n9_ n10_ n11_ n12_ n13_ n14_
              (try clear hb)
              (try clear hb2)
              (try clear hk)
              (try clear hi)
              refine hK.out _ _ ⟨(blk_cell BK192.out 0).trans rfl, (blk_cell BK192.out 1).trans rfl, (blk_cell BK192.out 2).trans rfl, (blk_cell BK181.out 0).trans rfl, (blk_cell BK181.out 1).trans rfl, (blk_cell BK181.out 2).trans rfl, (blk_cell BK182.out 0).trans rfl, (blk_cell BK182.out 1).trans rfl, (blk_cell BK182.out 2).trans rfl⟩ (fun hHeld => ?_)
              clear hK K
              refine norm_ (a' := ?_) ?_ ?_
              rotate_left
              · show Act.put _ (some 192) _ = _
                simp only [Act.put, List.setIfInBounds_toArray, List.set_cons_zero, List.set_cons_succ, i64_w, i32_w]
                rfl
              refine pure_ (i := 26) (N := some 193) (v := ?_) (a' := ?_) #[true, true, true, true, true, true, true, true, true, true, true, true, true, true, true, true, true, true, true, true, true, true, true, true, true, true, true, false, false] rfl rfl (any_of HT_.out (by kernel_rfl)) (fun _ _ _ h => h) (Or.inl ⟨by rfl, ?_⟩) ?_ ?_
              rotate_left
              · intro w'
                go_simp
                with_reducible rfl
              rotate_left
              · simp only [Act.put, List.setIfInBounds_toArray, List.set_cons_zero, List.set_cons_succ, i64_w, i32_w]
                rfl
              refine pure_ (i := 27) (N := some 194) (v := ?_) (a' := ?_) #[true, true, true, true, true, true, true, true, true, true, true, true, true, true, true, true, true, true, true, true, true, true, true, true, true, true, true, true, false] rfl rfl (any_of HT_.out (by kernel_rfl)) (fun _ _ _ h => h) (Or.inl ⟨by rfl, ?_⟩) ?_ ?_
              rotate_left
              · intro w'
                go_simp
                with_reducible rfl
              rotate_left
              · simp only [Act.put, List.setIfInBounds_toArray, List.set_cons_zero, List.set_cons_succ, i64_w, i32_w]
                rfl
              refine pure_ (i := 28) (N := some 8) (v := ?_) (a' := ?_) #[true, true, true, true, true, true, true, true, true, true, true, true, true, true, true, true, true, true, true, true, true, true, true, true, true, true, true, true, true] rfl rfl (any_of HT_.out (by kernel_rfl)) (fun _ _ _ h => h) (Or.inl ⟨by rfl, ?_⟩) ?_ ?_
              rotate_left
              · intro w'
                go_simp
                with_reducible rfl
              rotate_left
              · simp only [Act.put, List.setIfInBounds_toArray, List.set_cons_zero, List.set_cons_succ, i64_w, i32_w]
                rfl
              refine done_ (done_of HT_.out (by kernel_rfl)) ?_
              try go_wp2
              go_ret
              exact ⟨by first | rfl | (simp [errW_none, errW_some] <;> rfl) | (simp [*, errW_none, errW_some] <;> rfl), by repeat (first | (with_reducible first | exact HB.out | apply below_alloc | apply pw_below_drewN | apply below_drew1 | refine below_set ?_ GE181.out | refine below_set ?_ GE182.out | refine below_set ?_ GE192.out | refine below_set ?_ GE199.out | refine below_set ?_ GE206.out | refine below_set ?_ GE213.out | refine below_set ?_ GE220.out | refine below_set ?_ GE233.out) | exact HB.out)⟩
            rw [if_neg c393] at H
            have c393b0 : (t240 == t241) = false := by simpa using c393
            (try (have c393b1 : decide (t240 = t241) = false := by simpa using c393))
            (try (have c393b2 : (t240 == t241) = false := by simpa using c393))
            (try (have c393b3 : ¬ (t240 = t241) := by simpa using c393))
            clear c393
            exact absurd (H.trans (congrArg some HRT.out)) (by simp)
          rw [if_neg c390] at H
          have c390b0 : (t238 == t239) = false := by simpa using c390
          (try (have c390b1 : decide (t238 = t239) = false := by simpa using c390))
          (try (have c390b2 : (t238 == t239) = false := by simpa using c390))
          (try (have c390b3 : ¬ (t238 = t239) := by simpa using c390))
          clear c390
          exact absurd (H.trans (congrArg some HRT.out)) (by simp)
        replace c387 := Bool.eq_false_iff.mpr c387
        subst c387
        have H1 : (some false) = some r := by rw [if_neg (show ¬ (false = true) by decide)] at H; exact H
        clear H
        have H := H1
        clear H1
        exact absurd (H.trans (congrArg some HRT.out)) (by simp)
  replace c323 := Bool.eq_false_iff.mpr c323
  subst c323
  have H1 : (some false) = some r := by rw [if_neg (show ¬ (false = true) by decide)] at H; exact H
  clear H
  have H := H1
  clear H1
  exact absurd (H.trans (congrArg some HRT.out)) (by simp)
end Go.Proofs.Ytnmlnghjapekcaa.PTableTells
