import Derived.Test.YtdojpbbdcgfcnaaGreatDoorAiThree
set_option linter.all false
/- Operands by name. Printed by a program of ours. -/
set_option maxRecDepth 100000
namespace Go.Proofs.YtdojpbbdcgfcnaaGreatDoor.AI.T
open Go Go.Proofs.YtdojpbbdcgfcnaaGreatDoor.AI
def p0 : Pos := .h
def p1 : Pos := (.o .h)
def p2 : Pos := (.i .h)
def p3 : Pos := (.o (.o .h))
def p4 : Pos := (.i (.o .h))
def p5 : Pos := (.o (.i .h))
def p6 : Pos := (.i (.i .h))
def p7 : Pos := (.o (.o (.o .h)))
def p8 : Pos := (.i (.o (.o .h)))
def p9 : Pos := (.o (.i (.o .h)))
def p10 : Pos := (.i (.i (.o .h)))
def p11 : Pos := (.o (.o (.i .h)))
def p12 : Pos := (.i (.o (.i .h)))
def p13 : Pos := (.o (.i (.i .h)))
def p14 : Pos := (.i (.i (.i .h)))
def p15 : Pos := (.o (.o (.o (.o .h))))
def p16 : Pos := (.i (.o (.o (.o .h))))
def p17 : Pos := (.o (.i (.o (.o .h))))
def p18 : Pos := (.i (.i (.o (.o .h))))
def p19 : Pos := (.o (.o (.i (.o .h))))
def p20 : Pos := (.i (.o (.i (.o .h))))
def p21 : Pos := (.o (.i (.i (.o .h))))
def p22 : Pos := (.i (.i (.i (.o .h))))
def p23 : Pos := (.o (.o (.o (.i .h))))
def p24 : Pos := (.i (.o (.o (.i .h))))
def p25 : Pos := (.o (.i (.o (.i .h))))
def p26 : Pos := (.i (.i (.o (.i .h))))
def p27 : Pos := (.o (.o (.i (.i .h))))
def p28 : Pos := (.i (.o (.i (.i .h))))
def p29 : Pos := (.o (.i (.i (.i .h))))
def p30 : Pos := (.i (.i (.i (.i .h))))
def p31 : Pos := (.o (.o (.o (.o (.o .h)))))
def p32 : Pos := (.i (.o (.o (.o (.o .h)))))
def p33 : Pos := (.o (.i (.o (.o (.o .h)))))
def p34 : Pos := (.i (.i (.o (.o (.o .h)))))
def p35 : Pos := (.o (.o (.i (.o (.o .h)))))
def p36 : Pos := (.i (.o (.i (.o (.o .h)))))
def p37 : Pos := (.o (.i (.i (.o (.o .h)))))
def p38 : Pos := (.i (.i (.i (.o (.o .h)))))
def p39 : Pos := (.o (.o (.o (.i (.o .h)))))
def p40 : Pos := (.i (.o (.o (.i (.o .h)))))
def p41 : Pos := (.o (.i (.o (.i (.o .h)))))
def p42 : Pos := (.i (.i (.o (.i (.o .h)))))
def p43 : Pos := (.o (.o (.i (.i (.o .h)))))
def p44 : Pos := (.i (.o (.i (.i (.o .h)))))
def p45 : Pos := (.o (.i (.i (.i (.o .h)))))
def p46 : Pos := (.i (.i (.i (.i (.o .h)))))
def p47 : Pos := (.o (.o (.o (.o (.i .h)))))
def p48 : Pos := (.i (.o (.o (.o (.i .h)))))
def p49 : Pos := (.o (.i (.o (.o (.i .h)))))
def p50 : Pos := (.i (.i (.o (.o (.i .h)))))
def p51 : Pos := (.o (.o (.i (.o (.i .h)))))
def p52 : Pos := (.i (.o (.i (.o (.i .h)))))
def p53 : Pos := (.o (.i (.i (.o (.i .h)))))
def p54 : Pos := (.i (.i (.i (.o (.i .h)))))
def p55 : Pos := (.o (.o (.o (.i (.i .h)))))
def p56 : Pos := (.i (.o (.o (.i (.i .h)))))
def p57 : Pos := (.o (.i (.o (.i (.i .h)))))
def p58 : Pos := (.i (.i (.o (.i (.i .h)))))
def p59 : Pos := (.o (.o (.i (.i (.i .h)))))
def p60 : Pos := (.i (.o (.i (.i (.i .h)))))
def p61 : Pos := (.o (.i (.i (.i (.i .h)))))
def p62 : Pos := (.i (.i (.i (.i (.i .h)))))
def p63 : Pos := (.o (.o (.o (.o (.o (.o .h))))))
def p64 : Pos := (.i (.o (.o (.o (.o (.o .h))))))
def p65 : Pos := (.o (.i (.o (.o (.o (.o .h))))))
def p66 : Pos := (.i (.i (.o (.o (.o (.o .h))))))
def p67 : Pos := (.o (.o (.i (.o (.o (.o .h))))))
def p68 : Pos := (.i (.o (.i (.o (.o (.o .h))))))
def p69 : Pos := (.o (.i (.i (.o (.o (.o .h))))))
def p70 : Pos := (.i (.i (.i (.o (.o (.o .h))))))
def p71 : Pos := (.o (.o (.o (.i (.o (.o .h))))))
def p72 : Pos := (.i (.o (.o (.i (.o (.o .h))))))
def p73 : Pos := (.o (.i (.o (.i (.o (.o .h))))))
def p74 : Pos := (.i (.i (.o (.i (.o (.o .h))))))
def p75 : Pos := (.o (.o (.i (.i (.o (.o .h))))))
def p76 : Pos := (.i (.o (.i (.i (.o (.o .h))))))
def p77 : Pos := (.o (.i (.i (.i (.o (.o .h))))))
def p78 : Pos := (.i (.i (.i (.i (.o (.o .h))))))
def p79 : Pos := (.o (.o (.o (.o (.i (.o .h))))))
def p80 : Pos := (.i (.o (.o (.o (.i (.o .h))))))
def p81 : Pos := (.o (.i (.o (.o (.i (.o .h))))))
def p82 : Pos := (.i (.i (.o (.o (.i (.o .h))))))
def p83 : Pos := (.o (.o (.i (.o (.i (.o .h))))))
def p84 : Pos := (.i (.o (.i (.o (.i (.o .h))))))
def p85 : Pos := (.o (.i (.i (.o (.i (.o .h))))))
def p86 : Pos := (.i (.i (.i (.o (.i (.o .h))))))
def p87 : Pos := (.o (.o (.o (.i (.i (.o .h))))))
def p88 : Pos := (.i (.o (.o (.i (.i (.o .h))))))
def p89 : Pos := (.o (.i (.o (.i (.i (.o .h))))))
def p90 : Pos := (.i (.i (.o (.i (.i (.o .h))))))
def p91 : Pos := (.o (.o (.i (.i (.i (.o .h))))))
def p92 : Pos := (.i (.o (.i (.i (.i (.o .h))))))
def p93 : Pos := (.o (.i (.i (.i (.i (.o .h))))))
def p94 : Pos := (.i (.i (.i (.i (.i (.o .h))))))
def p95 : Pos := (.o (.o (.o (.o (.o (.i .h))))))
def p96 : Pos := (.i (.o (.o (.o (.o (.i .h))))))
def p97 : Pos := (.o (.i (.o (.o (.o (.i .h))))))
def p98 : Pos := (.i (.i (.o (.o (.o (.i .h))))))
def p99 : Pos := (.o (.o (.i (.o (.o (.i .h))))))
def p100 : Pos := (.i (.o (.i (.o (.o (.i .h))))))
def p101 : Pos := (.o (.i (.i (.o (.o (.i .h))))))
def p102 : Pos := (.i (.i (.i (.o (.o (.i .h))))))
def p103 : Pos := (.o (.o (.o (.i (.o (.i .h))))))
def p104 : Pos := (.i (.o (.o (.i (.o (.i .h))))))
def p105 : Pos := (.o (.i (.o (.i (.o (.i .h))))))
def p106 : Pos := (.i (.i (.o (.i (.o (.i .h))))))
def p107 : Pos := (.o (.o (.i (.i (.o (.i .h))))))
def p108 : Pos := (.i (.o (.i (.i (.o (.i .h))))))
def p109 : Pos := (.o (.i (.i (.i (.o (.i .h))))))
def p110 : Pos := (.i (.i (.i (.i (.o (.i .h))))))
def p111 : Pos := (.o (.o (.o (.o (.i (.i .h))))))
def p112 : Pos := (.i (.o (.o (.o (.i (.i .h))))))
def p113 : Pos := (.o (.i (.o (.o (.i (.i .h))))))
def p114 : Pos := (.i (.i (.o (.o (.i (.i .h))))))
def p115 : Pos := (.o (.o (.i (.o (.i (.i .h))))))
def p116 : Pos := (.i (.o (.i (.o (.i (.i .h))))))
def p117 : Pos := (.o (.i (.i (.o (.i (.i .h))))))
def p118 : Pos := (.i (.i (.i (.o (.i (.i .h))))))
def p119 : Pos := (.o (.o (.o (.i (.i (.i .h))))))
def p120 : Pos := (.i (.o (.o (.i (.i (.i .h))))))
def p121 : Pos := (.o (.i (.o (.i (.i (.i .h))))))
def p122 : Pos := (.i (.i (.o (.i (.i (.i .h))))))
def p123 : Pos := (.o (.o (.i (.i (.i (.i .h))))))
def p124 : Pos := (.i (.o (.i (.i (.i (.i .h))))))
def p125 : Pos := (.o (.i (.i (.i (.i (.i .h))))))
def p126 : Pos := (.i (.i (.i (.i (.i (.i .h))))))
def p127 : Pos := (.o (.o (.o (.o (.o (.o (.o .h)))))))
def p128 : Pos := (.i (.o (.o (.o (.o (.o (.o .h)))))))
def p129 : Pos := (.o (.i (.o (.o (.o (.o (.o .h)))))))
def p130 : Pos := (.i (.i (.o (.o (.o (.o (.o .h)))))))
def p131 : Pos := (.o (.o (.i (.o (.o (.o (.o .h)))))))
def p132 : Pos := (.i (.o (.i (.o (.o (.o (.o .h)))))))
def p133 : Pos := (.o (.i (.i (.o (.o (.o (.o .h)))))))
def p134 : Pos := (.i (.i (.i (.o (.o (.o (.o .h)))))))
def p135 : Pos := (.o (.o (.o (.i (.o (.o (.o .h)))))))
def p136 : Pos := (.i (.o (.o (.i (.o (.o (.o .h)))))))
def p137 : Pos := (.o (.i (.o (.i (.o (.o (.o .h)))))))
def p138 : Pos := (.i (.i (.o (.i (.o (.o (.o .h)))))))
def p139 : Pos := (.o (.o (.i (.i (.o (.o (.o .h)))))))
def p140 : Pos := (.i (.o (.i (.i (.o (.o (.o .h)))))))
def p141 : Pos := (.o (.i (.i (.i (.o (.o (.o .h)))))))
def p142 : Pos := (.i (.i (.i (.i (.o (.o (.o .h)))))))
def p143 : Pos := (.o (.o (.o (.o (.i (.o (.o .h)))))))
def p144 : Pos := (.i (.o (.o (.o (.i (.o (.o .h)))))))
def p145 : Pos := (.o (.i (.o (.o (.i (.o (.o .h)))))))
def p146 : Pos := (.i (.i (.o (.o (.i (.o (.o .h)))))))
def p147 : Pos := (.o (.o (.i (.o (.i (.o (.o .h)))))))
def p148 : Pos := (.i (.o (.i (.o (.i (.o (.o .h)))))))
def p149 : Pos := (.o (.i (.i (.o (.i (.o (.o .h)))))))
def p150 : Pos := (.i (.i (.i (.o (.i (.o (.o .h)))))))
def p151 : Pos := (.o (.o (.o (.i (.i (.o (.o .h)))))))
def p152 : Pos := (.i (.o (.o (.i (.i (.o (.o .h)))))))
def p153 : Pos := (.o (.i (.o (.i (.i (.o (.o .h)))))))
def p154 : Pos := (.i (.i (.o (.i (.i (.o (.o .h)))))))
def p155 : Pos := (.o (.o (.i (.i (.i (.o (.o .h)))))))
def p156 : Pos := (.i (.o (.i (.i (.i (.o (.o .h)))))))
def p157 : Pos := (.o (.i (.i (.i (.i (.o (.o .h)))))))
def p158 : Pos := (.i (.i (.i (.i (.i (.o (.o .h)))))))
def p159 : Pos := (.o (.o (.o (.o (.o (.i (.o .h)))))))
def p160 : Pos := (.i (.o (.o (.o (.o (.i (.o .h)))))))
def p161 : Pos := (.o (.i (.o (.o (.o (.i (.o .h)))))))
def p162 : Pos := (.i (.i (.o (.o (.o (.i (.o .h)))))))
def p163 : Pos := (.o (.o (.i (.o (.o (.i (.o .h)))))))
def p164 : Pos := (.i (.o (.i (.o (.o (.i (.o .h)))))))
def p165 : Pos := (.o (.i (.i (.o (.o (.i (.o .h)))))))
def p166 : Pos := (.i (.i (.i (.o (.o (.i (.o .h)))))))
def p167 : Pos := (.o (.o (.o (.i (.o (.i (.o .h)))))))
def p168 : Pos := (.i (.o (.o (.i (.o (.i (.o .h)))))))
def p169 : Pos := (.o (.i (.o (.i (.o (.i (.o .h)))))))
def p170 : Pos := (.i (.i (.o (.i (.o (.i (.o .h)))))))
def p171 : Pos := (.o (.o (.i (.i (.o (.i (.o .h)))))))
def p172 : Pos := (.i (.o (.i (.i (.o (.i (.o .h)))))))
def p173 : Pos := (.o (.i (.i (.i (.o (.i (.o .h)))))))
def p174 : Pos := (.i (.i (.i (.i (.o (.i (.o .h)))))))
def p175 : Pos := (.o (.o (.o (.o (.i (.i (.o .h)))))))
def p176 : Pos := (.i (.o (.o (.o (.i (.i (.o .h)))))))
def p177 : Pos := (.o (.i (.o (.o (.i (.i (.o .h)))))))
def p178 : Pos := (.i (.i (.o (.o (.i (.i (.o .h)))))))
def p179 : Pos := (.o (.o (.i (.o (.i (.i (.o .h)))))))
def p180 : Pos := (.i (.o (.i (.o (.i (.i (.o .h)))))))
def p181 : Pos := (.o (.i (.i (.o (.i (.i (.o .h)))))))
def p182 : Pos := (.i (.i (.i (.o (.i (.i (.o .h)))))))
def p183 : Pos := (.o (.o (.o (.i (.i (.i (.o .h)))))))
def p184 : Pos := (.i (.o (.o (.i (.i (.i (.o .h)))))))
def p185 : Pos := (.o (.i (.o (.i (.i (.i (.o .h)))))))
def p186 : Pos := (.i (.i (.o (.i (.i (.i (.o .h)))))))
def p187 : Pos := (.o (.o (.i (.i (.i (.i (.o .h)))))))
def p188 : Pos := (.i (.o (.i (.i (.i (.i (.o .h)))))))
def p189 : Pos := (.o (.i (.i (.i (.i (.i (.o .h)))))))
def p190 : Pos := (.i (.i (.i (.i (.i (.i (.o .h)))))))
def p191 : Pos := (.o (.o (.o (.o (.o (.o (.i .h)))))))
def p192 : Pos := (.i (.o (.o (.o (.o (.o (.i .h)))))))
def p193 : Pos := (.o (.i (.o (.o (.o (.o (.i .h)))))))
def p194 : Pos := (.i (.i (.o (.o (.o (.o (.i .h)))))))
def p195 : Pos := (.o (.o (.i (.o (.o (.o (.i .h)))))))
def p196 : Pos := (.i (.o (.i (.o (.o (.o (.i .h)))))))
def p197 : Pos := (.o (.i (.i (.o (.o (.o (.i .h)))))))
def p198 : Pos := (.i (.i (.i (.o (.o (.o (.i .h)))))))
def p199 : Pos := (.o (.o (.o (.i (.o (.o (.i .h)))))))
def p200 : Pos := (.i (.o (.o (.i (.o (.o (.i .h)))))))
def p201 : Pos := (.o (.i (.o (.i (.o (.o (.i .h)))))))
def p202 : Pos := (.i (.i (.o (.i (.o (.o (.i .h)))))))
def p203 : Pos := (.o (.o (.i (.i (.o (.o (.i .h)))))))
def p204 : Pos := (.i (.o (.i (.i (.o (.o (.i .h)))))))
def p205 : Pos := (.o (.i (.i (.i (.o (.o (.i .h)))))))
def p206 : Pos := (.i (.i (.i (.i (.o (.o (.i .h)))))))
def p207 : Pos := (.o (.o (.o (.o (.i (.o (.i .h)))))))
def p208 : Pos := (.i (.o (.o (.o (.i (.o (.i .h)))))))
def p209 : Pos := (.o (.i (.o (.o (.i (.o (.i .h)))))))
def p210 : Pos := (.i (.i (.o (.o (.i (.o (.i .h)))))))
def p211 : Pos := (.o (.o (.i (.o (.i (.o (.i .h)))))))
def p212 : Pos := (.i (.o (.i (.o (.i (.o (.i .h)))))))
def p213 : Pos := (.o (.i (.i (.o (.i (.o (.i .h)))))))
def p214 : Pos := (.i (.i (.i (.o (.i (.o (.i .h)))))))
def p215 : Pos := (.o (.o (.o (.i (.i (.o (.i .h)))))))
def p216 : Pos := (.i (.o (.o (.i (.i (.o (.i .h)))))))
def p217 : Pos := (.o (.i (.o (.i (.i (.o (.i .h)))))))
def p218 : Pos := (.i (.i (.o (.i (.i (.o (.i .h)))))))
def p219 : Pos := (.o (.o (.i (.i (.i (.o (.i .h)))))))
def p220 : Pos := (.i (.o (.i (.i (.i (.o (.i .h)))))))
def p221 : Pos := (.o (.i (.i (.i (.i (.o (.i .h)))))))
def p222 : Pos := (.i (.i (.i (.i (.i (.o (.i .h)))))))
def p223 : Pos := (.o (.o (.o (.o (.o (.i (.i .h)))))))
def p224 : Pos := (.i (.o (.o (.o (.o (.i (.i .h)))))))
def p225 : Pos := (.o (.i (.o (.o (.o (.i (.i .h)))))))
def p226 : Pos := (.i (.i (.o (.o (.o (.i (.i .h)))))))
def p227 : Pos := (.o (.o (.i (.o (.o (.i (.i .h)))))))
def p228 : Pos := (.i (.o (.i (.o (.o (.i (.i .h)))))))
def p229 : Pos := (.o (.i (.i (.o (.o (.i (.i .h)))))))
def p230 : Pos := (.i (.i (.i (.o (.o (.i (.i .h)))))))
def p231 : Pos := (.o (.o (.o (.i (.o (.i (.i .h)))))))
def p232 : Pos := (.i (.o (.o (.i (.o (.i (.i .h)))))))
def p233 : Pos := (.o (.i (.o (.i (.o (.i (.i .h)))))))
def p234 : Pos := (.i (.i (.o (.i (.o (.i (.i .h)))))))
def p235 : Pos := (.o (.o (.i (.i (.o (.i (.i .h)))))))
def p236 : Pos := (.i (.o (.i (.i (.o (.i (.i .h)))))))
def p237 : Pos := (.o (.i (.i (.i (.o (.i (.i .h)))))))
def p238 : Pos := (.i (.i (.i (.i (.o (.i (.i .h)))))))
def p239 : Pos := (.o (.o (.o (.o (.i (.i (.i .h)))))))
def p240 : Pos := (.i (.o (.o (.o (.i (.i (.i .h)))))))
def p241 : Pos := (.o (.i (.o (.o (.i (.i (.i .h)))))))
def p242 : Pos := (.i (.i (.o (.o (.i (.i (.i .h)))))))
def p243 : Pos := (.o (.o (.i (.o (.i (.i (.i .h)))))))
def p244 : Pos := (.i (.o (.i (.o (.i (.i (.i .h)))))))
def p245 : Pos := (.o (.i (.i (.o (.i (.i (.i .h)))))))
def p246 : Pos := (.i (.i (.i (.o (.i (.i (.i .h)))))))
def p247 : Pos := (.o (.o (.o (.i (.i (.i (.i .h)))))))
def p248 : Pos := (.i (.o (.o (.i (.i (.i (.i .h)))))))
def p249 : Pos := (.o (.i (.o (.i (.i (.i (.i .h)))))))
def p250 : Pos := (.i (.i (.o (.i (.i (.i (.i .h)))))))
def p251 : Pos := (.o (.o (.i (.i (.i (.i (.i .h)))))))
def p252 : Pos := (.i (.o (.i (.i (.i (.i (.i .h)))))))
def p253 : Pos := (.o (.i (.i (.i (.i (.i (.i .h)))))))
def p254 : Pos := (.i (.i (.i (.i (.i (.i (.i .h)))))))
def p255 : Pos := (.o (.o (.o (.o (.o (.o (.o (.o .h))))))))
def p256 : Pos := (.i (.o (.o (.o (.o (.o (.o (.o .h))))))))
def p257 : Pos := (.o (.i (.o (.o (.o (.o (.o (.o .h))))))))
def p258 : Pos := (.i (.i (.o (.o (.o (.o (.o (.o .h))))))))
def p259 : Pos := (.o (.o (.i (.o (.o (.o (.o (.o .h))))))))
def p260 : Pos := (.i (.o (.i (.o (.o (.o (.o (.o .h))))))))
def p261 : Pos := (.o (.i (.i (.o (.o (.o (.o (.o .h))))))))
def p262 : Pos := (.i (.i (.i (.o (.o (.o (.o (.o .h))))))))
def p263 : Pos := (.o (.o (.o (.i (.o (.o (.o (.o .h))))))))
def p264 : Pos := (.i (.o (.o (.i (.o (.o (.o (.o .h))))))))
def p265 : Pos := (.o (.i (.o (.i (.o (.o (.o (.o .h))))))))
def p266 : Pos := (.i (.i (.o (.i (.o (.o (.o (.o .h))))))))
def p267 : Pos := (.o (.o (.i (.i (.o (.o (.o (.o .h))))))))
def p268 : Pos := (.i (.o (.i (.i (.o (.o (.o (.o .h))))))))
def p269 : Pos := (.o (.i (.i (.i (.o (.o (.o (.o .h))))))))
def p270 : Pos := (.i (.i (.i (.i (.o (.o (.o (.o .h))))))))
def p271 : Pos := (.o (.o (.o (.o (.i (.o (.o (.o .h))))))))
def p272 : Pos := (.i (.o (.o (.o (.i (.o (.o (.o .h))))))))
def p273 : Pos := (.o (.i (.o (.o (.i (.o (.o (.o .h))))))))
def p274 : Pos := (.i (.i (.o (.o (.i (.o (.o (.o .h))))))))
def p275 : Pos := (.o (.o (.i (.o (.i (.o (.o (.o .h))))))))
def p276 : Pos := (.i (.o (.i (.o (.i (.o (.o (.o .h))))))))
def p277 : Pos := (.o (.i (.i (.o (.i (.o (.o (.o .h))))))))
def p278 : Pos := (.i (.i (.i (.o (.i (.o (.o (.o .h))))))))
def p279 : Pos := (.o (.o (.o (.i (.i (.o (.o (.o .h))))))))
def p280 : Pos := (.i (.o (.o (.i (.i (.o (.o (.o .h))))))))
def p281 : Pos := (.o (.i (.o (.i (.i (.o (.o (.o .h))))))))
def p282 : Pos := (.i (.i (.o (.i (.i (.o (.o (.o .h))))))))
def p283 : Pos := (.o (.o (.i (.i (.i (.o (.o (.o .h))))))))
def p284 : Pos := (.i (.o (.i (.i (.i (.o (.o (.o .h))))))))
def p285 : Pos := (.o (.i (.i (.i (.i (.o (.o (.o .h))))))))
def p286 : Pos := (.i (.i (.i (.i (.i (.o (.o (.o .h))))))))
def p287 : Pos := (.o (.o (.o (.o (.o (.i (.o (.o .h))))))))
def p288 : Pos := (.i (.o (.o (.o (.o (.i (.o (.o .h))))))))
def p289 : Pos := (.o (.i (.o (.o (.o (.i (.o (.o .h))))))))
def p290 : Pos := (.i (.i (.o (.o (.o (.i (.o (.o .h))))))))
def p291 : Pos := (.o (.o (.i (.o (.o (.i (.o (.o .h))))))))
def p292 : Pos := (.i (.o (.i (.o (.o (.i (.o (.o .h))))))))
def p293 : Pos := (.o (.i (.i (.o (.o (.i (.o (.o .h))))))))
def p294 : Pos := (.i (.i (.i (.o (.o (.i (.o (.o .h))))))))
def p295 : Pos := (.o (.o (.o (.i (.o (.i (.o (.o .h))))))))
def p296 : Pos := (.i (.o (.o (.i (.o (.i (.o (.o .h))))))))
def p297 : Pos := (.o (.i (.o (.i (.o (.i (.o (.o .h))))))))
def p298 : Pos := (.i (.i (.o (.i (.o (.i (.o (.o .h))))))))
def p299 : Pos := (.o (.o (.i (.i (.o (.i (.o (.o .h))))))))
def p300 : Pos := (.i (.o (.i (.i (.o (.i (.o (.o .h))))))))
def p301 : Pos := (.o (.i (.i (.i (.o (.i (.o (.o .h))))))))
def p302 : Pos := (.i (.i (.i (.i (.o (.i (.o (.o .h))))))))
def p303 : Pos := (.o (.o (.o (.o (.i (.i (.o (.o .h))))))))
def p304 : Pos := (.i (.o (.o (.o (.i (.i (.o (.o .h))))))))
def p305 : Pos := (.o (.i (.o (.o (.i (.i (.o (.o .h))))))))
def p306 : Pos := (.i (.i (.o (.o (.i (.i (.o (.o .h))))))))
def p307 : Pos := (.o (.o (.i (.o (.i (.i (.o (.o .h))))))))
def p308 : Pos := (.i (.o (.i (.o (.i (.i (.o (.o .h))))))))
def p309 : Pos := (.o (.i (.i (.o (.i (.i (.o (.o .h))))))))
def p310 : Pos := (.i (.i (.i (.o (.i (.i (.o (.o .h))))))))
def p311 : Pos := (.o (.o (.o (.i (.i (.i (.o (.o .h))))))))
def p312 : Pos := (.i (.o (.o (.i (.i (.i (.o (.o .h))))))))
def p313 : Pos := (.o (.i (.o (.i (.i (.i (.o (.o .h))))))))
def p314 : Pos := (.i (.i (.o (.i (.i (.i (.o (.o .h))))))))
def p315 : Pos := (.o (.o (.i (.i (.i (.i (.o (.o .h))))))))
def p316 : Pos := (.i (.o (.i (.i (.i (.i (.o (.o .h))))))))
def p317 : Pos := (.o (.i (.i (.i (.i (.i (.o (.o .h))))))))
def p318 : Pos := (.i (.i (.i (.i (.i (.i (.o (.o .h))))))))
def p319 : Pos := (.o (.o (.o (.o (.o (.o (.i (.o .h))))))))
def p320 : Pos := (.i (.o (.o (.o (.o (.o (.i (.o .h))))))))
def p321 : Pos := (.o (.i (.o (.o (.o (.o (.i (.o .h))))))))
def p322 : Pos := (.i (.i (.o (.o (.o (.o (.i (.o .h))))))))
def p323 : Pos := (.o (.o (.i (.o (.o (.o (.i (.o .h))))))))
def p324 : Pos := (.i (.o (.i (.o (.o (.o (.i (.o .h))))))))
def p325 : Pos := (.o (.i (.i (.o (.o (.o (.i (.o .h))))))))
def p326 : Pos := (.i (.i (.i (.o (.o (.o (.i (.o .h))))))))
def p327 : Pos := (.o (.o (.o (.i (.o (.o (.i (.o .h))))))))
def p328 : Pos := (.i (.o (.o (.i (.o (.o (.i (.o .h))))))))
def p329 : Pos := (.o (.i (.o (.i (.o (.o (.i (.o .h))))))))
def p330 : Pos := (.i (.i (.o (.i (.o (.o (.i (.o .h))))))))
def p331 : Pos := (.o (.o (.i (.i (.o (.o (.i (.o .h))))))))
def p332 : Pos := (.i (.o (.i (.i (.o (.o (.i (.o .h))))))))
def p333 : Pos := (.o (.i (.i (.i (.o (.o (.i (.o .h))))))))
def p334 : Pos := (.i (.i (.i (.i (.o (.o (.i (.o .h))))))))
def p335 : Pos := (.o (.o (.o (.o (.i (.o (.i (.o .h))))))))
def p336 : Pos := (.i (.o (.o (.o (.i (.o (.i (.o .h))))))))
def p337 : Pos := (.o (.i (.o (.o (.i (.o (.i (.o .h))))))))
def p338 : Pos := (.i (.i (.o (.o (.i (.o (.i (.o .h))))))))
def p339 : Pos := (.o (.o (.i (.o (.i (.o (.i (.o .h))))))))
def p340 : Pos := (.i (.o (.i (.o (.i (.o (.i (.o .h))))))))
def p341 : Pos := (.o (.i (.i (.o (.i (.o (.i (.o .h))))))))
def p342 : Pos := (.i (.i (.i (.o (.i (.o (.i (.o .h))))))))
def p343 : Pos := (.o (.o (.o (.i (.i (.o (.i (.o .h))))))))
def p344 : Pos := (.i (.o (.o (.i (.i (.o (.i (.o .h))))))))
def p345 : Pos := (.o (.i (.o (.i (.i (.o (.i (.o .h))))))))
def p346 : Pos := (.i (.i (.o (.i (.i (.o (.i (.o .h))))))))
def p347 : Pos := (.o (.o (.i (.i (.i (.o (.i (.o .h))))))))
def p348 : Pos := (.i (.o (.i (.i (.i (.o (.i (.o .h))))))))
def p349 : Pos := (.o (.i (.i (.i (.i (.o (.i (.o .h))))))))
def p350 : Pos := (.i (.i (.i (.i (.i (.o (.i (.o .h))))))))
def p351 : Pos := (.o (.o (.o (.o (.o (.i (.i (.o .h))))))))
def p352 : Pos := (.i (.o (.o (.o (.o (.i (.i (.o .h))))))))
def p353 : Pos := (.o (.i (.o (.o (.o (.i (.i (.o .h))))))))
def p354 : Pos := (.i (.i (.o (.o (.o (.i (.i (.o .h))))))))
def p355 : Pos := (.o (.o (.i (.o (.o (.i (.i (.o .h))))))))
def p356 : Pos := (.i (.o (.i (.o (.o (.i (.i (.o .h))))))))
def p357 : Pos := (.o (.i (.i (.o (.o (.i (.i (.o .h))))))))
def p358 : Pos := (.i (.i (.i (.o (.o (.i (.i (.o .h))))))))
def p359 : Pos := (.o (.o (.o (.i (.o (.i (.i (.o .h))))))))
def p360 : Pos := (.i (.o (.o (.i (.o (.i (.i (.o .h))))))))
def p361 : Pos := (.o (.i (.o (.i (.o (.i (.i (.o .h))))))))
def p362 : Pos := (.i (.i (.o (.i (.o (.i (.i (.o .h))))))))
def p363 : Pos := (.o (.o (.i (.i (.o (.i (.i (.o .h))))))))
def p364 : Pos := (.i (.o (.i (.i (.o (.i (.i (.o .h))))))))
def p365 : Pos := (.o (.i (.i (.i (.o (.i (.i (.o .h))))))))
def p366 : Pos := (.i (.i (.i (.i (.o (.i (.i (.o .h))))))))
def p367 : Pos := (.o (.o (.o (.o (.i (.i (.i (.o .h))))))))
def p368 : Pos := (.i (.o (.o (.o (.i (.i (.i (.o .h))))))))
def p369 : Pos := (.o (.i (.o (.o (.i (.i (.i (.o .h))))))))
def p370 : Pos := (.i (.i (.o (.o (.i (.i (.i (.o .h))))))))
def p371 : Pos := (.o (.o (.i (.o (.i (.i (.i (.o .h))))))))
def p372 : Pos := (.i (.o (.i (.o (.i (.i (.i (.o .h))))))))
def p373 : Pos := (.o (.i (.i (.o (.i (.i (.i (.o .h))))))))
def p374 : Pos := (.i (.i (.i (.o (.i (.i (.i (.o .h))))))))
def p375 : Pos := (.o (.o (.o (.i (.i (.i (.i (.o .h))))))))
def p376 : Pos := (.i (.o (.o (.i (.i (.i (.i (.o .h))))))))
def p377 : Pos := (.o (.i (.o (.i (.i (.i (.i (.o .h))))))))
def p378 : Pos := (.i (.i (.o (.i (.i (.i (.i (.o .h))))))))
def p379 : Pos := (.o (.o (.i (.i (.i (.i (.i (.o .h))))))))
def p380 : Pos := (.i (.o (.i (.i (.i (.i (.i (.o .h))))))))
def p381 : Pos := (.o (.i (.i (.i (.i (.i (.i (.o .h))))))))
def p382 : Pos := (.i (.i (.i (.i (.i (.i (.i (.o .h))))))))
def p383 : Pos := (.o (.o (.o (.o (.o (.o (.o (.i .h))))))))
def p384 : Pos := (.i (.o (.o (.o (.o (.o (.o (.i .h))))))))
def p385 : Pos := (.o (.i (.o (.o (.o (.o (.o (.i .h))))))))
def p386 : Pos := (.i (.i (.o (.o (.o (.o (.o (.i .h))))))))
def p387 : Pos := (.o (.o (.i (.o (.o (.o (.o (.i .h))))))))
def p388 : Pos := (.i (.o (.i (.o (.o (.o (.o (.i .h))))))))
def p389 : Pos := (.o (.i (.i (.o (.o (.o (.o (.i .h))))))))
def p390 : Pos := (.i (.i (.i (.o (.o (.o (.o (.i .h))))))))
def p391 : Pos := (.o (.o (.o (.i (.o (.o (.o (.i .h))))))))
def p392 : Pos := (.i (.o (.o (.i (.o (.o (.o (.i .h))))))))
def p393 : Pos := (.o (.i (.o (.i (.o (.o (.o (.i .h))))))))
def p394 : Pos := (.i (.i (.o (.i (.o (.o (.o (.i .h))))))))
def p395 : Pos := (.o (.o (.i (.i (.o (.o (.o (.i .h))))))))
def p396 : Pos := (.i (.o (.i (.i (.o (.o (.o (.i .h))))))))
def p397 : Pos := (.o (.i (.i (.i (.o (.o (.o (.i .h))))))))
def p398 : Pos := (.i (.i (.i (.i (.o (.o (.o (.i .h))))))))
def p399 : Pos := (.o (.o (.o (.o (.i (.o (.o (.i .h))))))))
def p400 : Pos := (.i (.o (.o (.o (.i (.o (.o (.i .h))))))))
def p401 : Pos := (.o (.i (.o (.o (.i (.o (.o (.i .h))))))))
def p402 : Pos := (.i (.i (.o (.o (.i (.o (.o (.i .h))))))))
def p403 : Pos := (.o (.o (.i (.o (.i (.o (.o (.i .h))))))))
def p404 : Pos := (.i (.o (.i (.o (.i (.o (.o (.i .h))))))))
def p405 : Pos := (.o (.i (.i (.o (.i (.o (.o (.i .h))))))))
def p406 : Pos := (.i (.i (.i (.o (.i (.o (.o (.i .h))))))))
def p407 : Pos := (.o (.o (.o (.i (.i (.o (.o (.i .h))))))))
def p408 : Pos := (.i (.o (.o (.i (.i (.o (.o (.i .h))))))))
def p409 : Pos := (.o (.i (.o (.i (.i (.o (.o (.i .h))))))))
def p410 : Pos := (.i (.i (.o (.i (.i (.o (.o (.i .h))))))))
def p411 : Pos := (.o (.o (.i (.i (.i (.o (.o (.i .h))))))))
def p412 : Pos := (.i (.o (.i (.i (.i (.o (.o (.i .h))))))))
def p413 : Pos := (.o (.i (.i (.i (.i (.o (.o (.i .h))))))))
def p414 : Pos := (.i (.i (.i (.i (.i (.o (.o (.i .h))))))))
def p415 : Pos := (.o (.o (.o (.o (.o (.i (.o (.i .h))))))))
def p416 : Pos := (.i (.o (.o (.o (.o (.i (.o (.i .h))))))))
def p417 : Pos := (.o (.i (.o (.o (.o (.i (.o (.i .h))))))))
def p418 : Pos := (.i (.i (.o (.o (.o (.i (.o (.i .h))))))))
def p419 : Pos := (.o (.o (.i (.o (.o (.i (.o (.i .h))))))))
def p420 : Pos := (.i (.o (.i (.o (.o (.i (.o (.i .h))))))))
def p421 : Pos := (.o (.i (.i (.o (.o (.i (.o (.i .h))))))))
def p422 : Pos := (.i (.i (.i (.o (.o (.i (.o (.i .h))))))))
def p423 : Pos := (.o (.o (.o (.i (.o (.i (.o (.i .h))))))))
def p424 : Pos := (.i (.o (.o (.i (.o (.i (.o (.i .h))))))))
def p425 : Pos := (.o (.i (.o (.i (.o (.i (.o (.i .h))))))))
def p426 : Pos := (.i (.i (.o (.i (.o (.i (.o (.i .h))))))))
def p427 : Pos := (.o (.o (.i (.i (.o (.i (.o (.i .h))))))))
def p428 : Pos := (.i (.o (.i (.i (.o (.i (.o (.i .h))))))))
def p429 : Pos := (.o (.i (.i (.i (.o (.i (.o (.i .h))))))))
def p430 : Pos := (.i (.i (.i (.i (.o (.i (.o (.i .h))))))))
def p431 : Pos := (.o (.o (.o (.o (.i (.i (.o (.i .h))))))))
def p432 : Pos := (.i (.o (.o (.o (.i (.i (.o (.i .h))))))))
def p433 : Pos := (.o (.i (.o (.o (.i (.i (.o (.i .h))))))))
def p434 : Pos := (.i (.i (.o (.o (.i (.i (.o (.i .h))))))))
def p435 : Pos := (.o (.o (.i (.o (.i (.i (.o (.i .h))))))))
def p436 : Pos := (.i (.o (.i (.o (.i (.i (.o (.i .h))))))))
def p437 : Pos := (.o (.i (.i (.o (.i (.i (.o (.i .h))))))))
def p438 : Pos := (.i (.i (.i (.o (.i (.i (.o (.i .h))))))))
def p439 : Pos := (.o (.o (.o (.i (.i (.i (.o (.i .h))))))))
def p440 : Pos := (.i (.o (.o (.i (.i (.i (.o (.i .h))))))))
def p441 : Pos := (.o (.i (.o (.i (.i (.i (.o (.i .h))))))))
def p442 : Pos := (.i (.i (.o (.i (.i (.i (.o (.i .h))))))))
def p443 : Pos := (.o (.o (.i (.i (.i (.i (.o (.i .h))))))))
def p444 : Pos := (.i (.o (.i (.i (.i (.i (.o (.i .h))))))))
def p445 : Pos := (.o (.i (.i (.i (.i (.i (.o (.i .h))))))))
def p446 : Pos := (.i (.i (.i (.i (.i (.i (.o (.i .h))))))))
def p447 : Pos := (.o (.o (.o (.o (.o (.o (.i (.i .h))))))))
def p448 : Pos := (.i (.o (.o (.o (.o (.o (.i (.i .h))))))))
def p449 : Pos := (.o (.i (.o (.o (.o (.o (.i (.i .h))))))))
def p450 : Pos := (.i (.i (.o (.o (.o (.o (.i (.i .h))))))))
def p451 : Pos := (.o (.o (.i (.o (.o (.o (.i (.i .h))))))))
def p452 : Pos := (.i (.o (.i (.o (.o (.o (.i (.i .h))))))))
def p453 : Pos := (.o (.i (.i (.o (.o (.o (.i (.i .h))))))))
def p454 : Pos := (.i (.i (.i (.o (.o (.o (.i (.i .h))))))))
def p455 : Pos := (.o (.o (.o (.i (.o (.o (.i (.i .h))))))))
def p456 : Pos := (.i (.o (.o (.i (.o (.o (.i (.i .h))))))))
def p457 : Pos := (.o (.i (.o (.i (.o (.o (.i (.i .h))))))))
def p458 : Pos := (.i (.i (.o (.i (.o (.o (.i (.i .h))))))))
def p459 : Pos := (.o (.o (.i (.i (.o (.o (.i (.i .h))))))))
def p460 : Pos := (.i (.o (.i (.i (.o (.o (.i (.i .h))))))))
def p461 : Pos := (.o (.i (.i (.i (.o (.o (.i (.i .h))))))))
def p462 : Pos := (.i (.i (.i (.i (.o (.o (.i (.i .h))))))))
def p463 : Pos := (.o (.o (.o (.o (.i (.o (.i (.i .h))))))))
def p464 : Pos := (.i (.o (.o (.o (.i (.o (.i (.i .h))))))))
def p465 : Pos := (.o (.i (.o (.o (.i (.o (.i (.i .h))))))))
def p466 : Pos := (.i (.i (.o (.o (.i (.o (.i (.i .h))))))))
def p467 : Pos := (.o (.o (.i (.o (.i (.o (.i (.i .h))))))))
def p468 : Pos := (.i (.o (.i (.o (.i (.o (.i (.i .h))))))))
def p469 : Pos := (.o (.i (.i (.o (.i (.o (.i (.i .h))))))))
def p470 : Pos := (.i (.i (.i (.o (.i (.o (.i (.i .h))))))))
def p471 : Pos := (.o (.o (.o (.i (.i (.o (.i (.i .h))))))))
def p472 : Pos := (.i (.o (.o (.i (.i (.o (.i (.i .h))))))))
def p473 : Pos := (.o (.i (.o (.i (.i (.o (.i (.i .h))))))))
def p474 : Pos := (.i (.i (.o (.i (.i (.o (.i (.i .h))))))))
def p475 : Pos := (.o (.o (.i (.i (.i (.o (.i (.i .h))))))))
def p476 : Pos := (.i (.o (.i (.i (.i (.o (.i (.i .h))))))))
def p477 : Pos := (.o (.i (.i (.i (.i (.o (.i (.i .h))))))))
def p478 : Pos := (.i (.i (.i (.i (.i (.o (.i (.i .h))))))))
def p479 : Pos := (.o (.o (.o (.o (.o (.i (.i (.i .h))))))))
def p480 : Pos := (.i (.o (.o (.o (.o (.i (.i (.i .h))))))))
def p481 : Pos := (.o (.i (.o (.o (.o (.i (.i (.i .h))))))))
def p482 : Pos := (.i (.i (.o (.o (.o (.i (.i (.i .h))))))))
def p483 : Pos := (.o (.o (.i (.o (.o (.i (.i (.i .h))))))))
def p484 : Pos := (.i (.o (.i (.o (.o (.i (.i (.i .h))))))))
def p485 : Pos := (.o (.i (.i (.o (.o (.i (.i (.i .h))))))))
def p486 : Pos := (.i (.i (.i (.o (.o (.i (.i (.i .h))))))))
def p487 : Pos := (.o (.o (.o (.i (.o (.i (.i (.i .h))))))))
def p488 : Pos := (.i (.o (.o (.i (.o (.i (.i (.i .h))))))))
def p489 : Pos := (.o (.i (.o (.i (.o (.i (.i (.i .h))))))))
def p490 : Pos := (.i (.i (.o (.i (.o (.i (.i (.i .h))))))))
def p491 : Pos := (.o (.o (.i (.i (.o (.i (.i (.i .h))))))))
def p492 : Pos := (.i (.o (.i (.i (.o (.i (.i (.i .h))))))))
def p493 : Pos := (.o (.i (.i (.i (.o (.i (.i (.i .h))))))))
def p494 : Pos := (.i (.i (.i (.i (.o (.i (.i (.i .h))))))))
def p495 : Pos := (.o (.o (.o (.o (.i (.i (.i (.i .h))))))))
def p496 : Pos := (.i (.o (.o (.o (.i (.i (.i (.i .h))))))))
def p497 : Pos := (.o (.i (.o (.o (.i (.i (.i (.i .h))))))))
def p498 : Pos := (.i (.i (.o (.o (.i (.i (.i (.i .h))))))))
def p499 : Pos := (.o (.o (.i (.o (.i (.i (.i (.i .h))))))))
def t0 : O := .t p0
def t1 : O := .t p1
def t2 : O := .t p2
def t3 : O := .t p3
def t4 : O := .t p4
def t5 : O := .t p5
def t6 : O := .t p6
def t7 : O := .t p7
def t8 : O := .t p8
def t9 : O := .t p9
def t10 : O := .t p10
def t11 : O := .t p11
def t12 : O := .t p12
def t13 : O := .t p13
def t14 : O := .t p14
def t15 : O := .t p15
def t16 : O := .t p16
def t17 : O := .t p17
def t18 : O := .t p18
def t19 : O := .t p19
def t20 : O := .t p20
def t21 : O := .t p21
def t22 : O := .t p22
def t23 : O := .t p23
def t24 : O := .t p24
def t25 : O := .t p25
def t26 : O := .t p26
def t27 : O := .t p27
def t28 : O := .t p28
def t29 : O := .t p29
def t30 : O := .t p30
def t31 : O := .t p31
def t32 : O := .t p32
def t33 : O := .t p33
def t34 : O := .t p34
def t35 : O := .t p35
def t36 : O := .t p36
def t37 : O := .t p37
def t38 : O := .t p38
def t39 : O := .t p39
def t40 : O := .t p40
def t41 : O := .t p41
def t42 : O := .t p42
def t43 : O := .t p43
def t44 : O := .t p44
def t45 : O := .t p45
def t46 : O := .t p46
def t47 : O := .t p47
def t48 : O := .t p48
def t49 : O := .t p49
def t50 : O := .t p50
def t51 : O := .t p51
def t52 : O := .t p52
def t53 : O := .t p53
def t54 : O := .t p54
def t55 : O := .t p55
def t56 : O := .t p56
def t57 : O := .t p57
def t58 : O := .t p58
def t59 : O := .t p59
def t60 : O := .t p60
def t61 : O := .t p61
def t62 : O := .t p62
def t63 : O := .t p63
def t64 : O := .t p64
def t65 : O := .t p65
def t66 : O := .t p66
def t67 : O := .t p67
def t68 : O := .t p68
def t69 : O := .t p69
def t70 : O := .t p70
def t71 : O := .t p71
def t72 : O := .t p72
def t73 : O := .t p73
def t74 : O := .t p74
def t75 : O := .t p75
def t76 : O := .t p76
def t77 : O := .t p77
def t78 : O := .t p78
def t79 : O := .t p79
def t80 : O := .t p80
def t81 : O := .t p81
def t82 : O := .t p82
def t83 : O := .t p83
def t84 : O := .t p84
def t85 : O := .t p85
def t86 : O := .t p86
def t87 : O := .t p87
def t88 : O := .t p88
def t89 : O := .t p89
def t90 : O := .t p90
def t91 : O := .t p91
def t92 : O := .t p92
def t93 : O := .t p93
def t94 : O := .t p94
def t95 : O := .t p95
def t96 : O := .t p96
def t97 : O := .t p97
def t98 : O := .t p98
def t99 : O := .t p99
def t100 : O := .t p100
def t101 : O := .t p101
def t102 : O := .t p102
def t103 : O := .t p103
def t104 : O := .t p104
def t105 : O := .t p105
def t106 : O := .t p106
def t107 : O := .t p107
def t108 : O := .t p108
def t109 : O := .t p109
def t110 : O := .t p110
def t111 : O := .t p111
def t112 : O := .t p112
def t113 : O := .t p113
def t114 : O := .t p114
def t115 : O := .t p115
def t116 : O := .t p116
def t117 : O := .t p117
def t118 : O := .t p118
def t119 : O := .t p119
def t120 : O := .t p120
def t121 : O := .t p121
def t122 : O := .t p122
def t123 : O := .t p123
def t124 : O := .t p124
def t125 : O := .t p125
def t126 : O := .t p126
def t127 : O := .t p127
def t128 : O := .t p128
def t129 : O := .t p129
def t130 : O := .t p130
def t131 : O := .t p131
def t132 : O := .t p132
def t133 : O := .t p133
def t134 : O := .t p134
def t135 : O := .t p135
def t136 : O := .t p136
def t137 : O := .t p137
def t138 : O := .t p138
def t139 : O := .t p139
def t140 : O := .t p140
def t141 : O := .t p141
def t142 : O := .t p142
def t143 : O := .t p143
def t144 : O := .t p144
def t145 : O := .t p145
def t146 : O := .t p146
def t147 : O := .t p147
def t148 : O := .t p148
def t149 : O := .t p149
def t150 : O := .t p150
def t151 : O := .t p151
def t152 : O := .t p152
def t153 : O := .t p153
def t154 : O := .t p154
def t155 : O := .t p155
def t156 : O := .t p156
def t157 : O := .t p157
def t158 : O := .t p158
def t159 : O := .t p159
def t160 : O := .t p160
def t161 : O := .t p161
def t162 : O := .t p162
def t163 : O := .t p163
def t164 : O := .t p164
def t165 : O := .t p165
def t166 : O := .t p166
def t167 : O := .t p167
def t168 : O := .t p168
def t169 : O := .t p169
def t170 : O := .t p170
def t171 : O := .t p171
def t172 : O := .t p172
def t173 : O := .t p173
def t174 : O := .t p174
def t175 : O := .t p175
def t176 : O := .t p176
def t177 : O := .t p177
def t178 : O := .t p178
def t179 : O := .t p179
def t180 : O := .t p180
def t181 : O := .t p181
def t182 : O := .t p182
def t183 : O := .t p183
def t184 : O := .t p184
def t185 : O := .t p185
def t186 : O := .t p186
def t187 : O := .t p187
def t188 : O := .t p188
def t189 : O := .t p189
def t190 : O := .t p190
def t191 : O := .t p191
def t192 : O := .t p192
def t193 : O := .t p193
def t194 : O := .t p194
def t195 : O := .t p195
def t196 : O := .t p196
def t197 : O := .t p197
def t198 : O := .t p198
def t199 : O := .t p199
def t200 : O := .t p200
def t201 : O := .t p201
def t202 : O := .t p202
def t203 : O := .t p203
def t204 : O := .t p204
def t205 : O := .t p205
def t206 : O := .t p206
def t207 : O := .t p207
def t208 : O := .t p208
def t209 : O := .t p209
def t210 : O := .t p210
def t211 : O := .t p211
def t212 : O := .t p212
def t213 : O := .t p213
def t214 : O := .t p214
def t215 : O := .t p215
def t216 : O := .t p216
def t217 : O := .t p217
def t218 : O := .t p218
def t219 : O := .t p219
def t220 : O := .t p220
def t221 : O := .t p221
def t222 : O := .t p222
def t223 : O := .t p223
def t224 : O := .t p224
def t225 : O := .t p225
def t226 : O := .t p226
def t227 : O := .t p227
def t228 : O := .t p228
def t229 : O := .t p229
def t230 : O := .t p230
def t231 : O := .t p231
def t232 : O := .t p232
def t233 : O := .t p233
def t234 : O := .t p234
def t235 : O := .t p235
def t236 : O := .t p236
def t237 : O := .t p237
def t238 : O := .t p238
def t239 : O := .t p239
def t240 : O := .t p240
def t241 : O := .t p241
def t242 : O := .t p242
def t243 : O := .t p243
def t244 : O := .t p244
def t245 : O := .t p245
def t246 : O := .t p246
def t247 : O := .t p247
def t248 : O := .t p248
def t249 : O := .t p249
def t250 : O := .t p250
def t251 : O := .t p251
def t252 : O := .t p252
def t253 : O := .t p253
def t254 : O := .t p254
def t255 : O := .t p255
def t256 : O := .t p256
def t257 : O := .t p257
def t258 : O := .t p258
def t259 : O := .t p259
def t260 : O := .t p260
def t261 : O := .t p261
def t262 : O := .t p262
def t263 : O := .t p263
def t264 : O := .t p264
def t265 : O := .t p265
def t266 : O := .t p266
def t267 : O := .t p267
def t268 : O := .t p268
def t269 : O := .t p269
def t270 : O := .t p270
def t271 : O := .t p271
def t272 : O := .t p272
def t273 : O := .t p273
def t274 : O := .t p274
def t275 : O := .t p275
def t276 : O := .t p276
def t277 : O := .t p277
def t278 : O := .t p278
def t279 : O := .t p279
def t280 : O := .t p280
def t281 : O := .t p281
def t282 : O := .t p282
def t283 : O := .t p283
def t284 : O := .t p284
def t285 : O := .t p285
def t286 : O := .t p286
def t287 : O := .t p287
def t288 : O := .t p288
def t289 : O := .t p289
def t290 : O := .t p290
def t291 : O := .t p291
def t292 : O := .t p292
def t293 : O := .t p293
def t294 : O := .t p294
def t295 : O := .t p295
def t296 : O := .t p296
def t297 : O := .t p297
def t298 : O := .t p298
def t299 : O := .t p299
def t300 : O := .t p300
def t301 : O := .t p301
def t302 : O := .t p302
def t303 : O := .t p303
def t304 : O := .t p304
def t305 : O := .t p305
def t306 : O := .t p306
def t307 : O := .t p307
def t308 : O := .t p308
def t309 : O := .t p309
def t310 : O := .t p310
def t311 : O := .t p311
def t312 : O := .t p312
def t313 : O := .t p313
def t314 : O := .t p314
def t315 : O := .t p315
def t316 : O := .t p316
def t317 : O := .t p317
def t318 : O := .t p318
def t319 : O := .t p319
def t320 : O := .t p320
def t321 : O := .t p321
def t322 : O := .t p322
def t323 : O := .t p323
def t324 : O := .t p324
def t325 : O := .t p325
def t326 : O := .t p326
def t327 : O := .t p327
def t328 : O := .t p328
def t329 : O := .t p329
def t330 : O := .t p330
def t331 : O := .t p331
def t332 : O := .t p332
def t333 : O := .t p333
def t334 : O := .t p334
def t335 : O := .t p335
def t336 : O := .t p336
def t337 : O := .t p337
def t338 : O := .t p338
def t339 : O := .t p339
def t340 : O := .t p340
def t341 : O := .t p341
def t342 : O := .t p342
def t343 : O := .t p343
def t344 : O := .t p344
def t345 : O := .t p345
def t346 : O := .t p346
def t347 : O := .t p347
def t348 : O := .t p348
def t349 : O := .t p349
def t350 : O := .t p350
def t351 : O := .t p351
def t352 : O := .t p352
def t353 : O := .t p353
def t354 : O := .t p354
def t355 : O := .t p355
def t356 : O := .t p356
def t357 : O := .t p357
def t358 : O := .t p358
def t359 : O := .t p359
def t360 : O := .t p360
def t361 : O := .t p361
def t362 : O := .t p362
def t363 : O := .t p363
def t364 : O := .t p364
def t365 : O := .t p365
def t366 : O := .t p366
def t367 : O := .t p367
def t368 : O := .t p368
def t369 : O := .t p369
def t370 : O := .t p370
def t371 : O := .t p371
def t372 : O := .t p372
def t373 : O := .t p373
def t374 : O := .t p374
def t375 : O := .t p375
def t376 : O := .t p376
def t377 : O := .t p377
def t378 : O := .t p378
def t379 : O := .t p379
def t380 : O := .t p380
def t381 : O := .t p381
def t382 : O := .t p382
def t383 : O := .t p383
def t384 : O := .t p384
def t385 : O := .t p385
def t386 : O := .t p386
def t387 : O := .t p387
def t388 : O := .t p388
def t389 : O := .t p389
def t390 : O := .t p390
def t391 : O := .t p391
def t392 : O := .t p392
def t393 : O := .t p393
def t394 : O := .t p394
def t395 : O := .t p395
def t396 : O := .t p396
def t397 : O := .t p397
def t398 : O := .t p398
def t399 : O := .t p399
def t400 : O := .t p400
def t401 : O := .t p401
def t402 : O := .t p402
def t403 : O := .t p403
def t404 : O := .t p404
def t405 : O := .t p405
def t406 : O := .t p406
def t407 : O := .t p407
def t408 : O := .t p408
def t409 : O := .t p409
def t410 : O := .t p410
def t411 : O := .t p411
def t412 : O := .t p412
def t413 : O := .t p413
def t414 : O := .t p414
def t415 : O := .t p415
def t416 : O := .t p416
def t417 : O := .t p417
def t418 : O := .t p418
def t419 : O := .t p419
def t420 : O := .t p420
def t421 : O := .t p421
def t422 : O := .t p422
def t423 : O := .t p423
def t424 : O := .t p424
def t425 : O := .t p425
def t426 : O := .t p426
def t427 : O := .t p427
def t428 : O := .t p428
def t429 : O := .t p429
def t430 : O := .t p430
def t431 : O := .t p431
def t432 : O := .t p432
def t433 : O := .t p433
def t434 : O := .t p434
def t435 : O := .t p435
def t436 : O := .t p436
def t437 : O := .t p437
def t438 : O := .t p438
def t439 : O := .t p439
def t440 : O := .t p440
def t441 : O := .t p441
def t442 : O := .t p442
def t443 : O := .t p443
def t444 : O := .t p444
def t445 : O := .t p445
def t446 : O := .t p446
def t447 : O := .t p447
def t448 : O := .t p448
def t449 : O := .t p449
def t450 : O := .t p450
def t451 : O := .t p451
def t452 : O := .t p452
def t453 : O := .t p453
def t454 : O := .t p454
def t455 : O := .t p455
def t456 : O := .t p456
def t457 : O := .t p457
def t458 : O := .t p458
def t459 : O := .t p459
def t460 : O := .t p460
def t461 : O := .t p461
def t462 : O := .t p462
def t463 : O := .t p463
def t464 : O := .t p464
def t465 : O := .t p465
def t466 : O := .t p466
def t467 : O := .t p467
def t468 : O := .t p468
def t469 : O := .t p469
def t470 : O := .t p470
def t471 : O := .t p471
def t472 : O := .t p472
def t473 : O := .t p473
def t474 : O := .t p474
def t475 : O := .t p475
def t476 : O := .t p476
def t477 : O := .t p477
def t478 : O := .t p478
def t479 : O := .t p479
def t480 : O := .t p480
def t481 : O := .t p481
def t482 : O := .t p482
def t483 : O := .t p483
def t484 : O := .t p484
def t485 : O := .t p485
def t486 : O := .t p486
def t487 : O := .t p487
def t488 : O := .t p488
def t489 : O := .t p489
def t490 : O := .t p490
def t491 : O := .t p491
def t492 : O := .t p492
def t493 : O := .t p493
def t494 : O := .t p494
def t495 : O := .t p495
def t496 : O := .t p496
def t497 : O := .t p497
def t498 : O := .t p498
def t499 : O := .t p499
def l0 : O := .l 0
def l1 : O := .l 1
def l2 : O := .l 2
def l3 : O := .l 3
def l4 : O := .l 4
def l5 : O := .l 5
def l6 : O := .l 6
def l7 : O := .l 7
def l8 : O := .l 8
def l9 : O := .l 9
def l10 : O := .l 10
def l11 : O := .l 11
def l12 : O := .l 12
def l13 : O := .l 13
def l14 : O := .l 14
def l15 : O := .l 15
def l16 : O := .l 16
def l17 : O := .l 17
def l18 : O := .l 18
def l19 : O := .l 19
def l20 : O := .l 20
def l21 : O := .l 21
def l22 : O := .l 22
def l23 : O := .l 23
def l24 : O := .l 24
def l25 : O := .l 25
def l26 : O := .l 26
def l27 : O := .l 27
def l28 : O := .l 28
def l29 : O := .l 29
def l30 : O := .l 30
def l31 : O := .l 31
def l32 : O := .l 32
def l33 : O := .l 33
def l34 : O := .l 34
def l35 : O := .l 35
def l36 : O := .l 36
def l37 : O := .l 37
def l38 : O := .l 38
def l39 : O := .l 39
def l40 : O := .l 40
def l41 : O := .l 41
def l42 : O := .l 42
def l43 : O := .l 43
def l44 : O := .l 44
def l45 : O := .l 45
def l46 : O := .l 46
def l47 : O := .l 47
def l48 : O := .l 48
def l49 : O := .l 49
def l50 : O := .l 50
def l51 : O := .l 51
def l52 : O := .l 52
def l53 : O := .l 53
def l54 : O := .l 54
def l55 : O := .l 55
def l56 : O := .l 56
def l57 : O := .l 57
def l58 : O := .l 58
def l59 : O := .l 59
def l60 : O := .l 60
def l61 : O := .l 61
def l62 : O := .l 62
def l63 : O := .l 63
def l64 : O := .l 64
def l65 : O := .l 65
def l66 : O := .l 66
def l67 : O := .l 67
def l68 : O := .l 68
def l69 : O := .l 69
def l70 : O := .l 70
def l71 : O := .l 71
def l72 : O := .l 72
def l73 : O := .l 73
def l74 : O := .l 74
def l75 : O := .l 75
def l76 : O := .l 76
def l77 : O := .l 77
def l78 : O := .l 78
def l79 : O := .l 79
def l80 : O := .l 80
def l81 : O := .l 81
def l82 : O := .l 82
def l83 : O := .l 83
def l84 : O := .l 84
def l85 : O := .l 85
def l86 : O := .l 86
def l87 : O := .l 87
def l88 : O := .l 88
def l89 : O := .l 89
def l90 : O := .l 90
def l91 : O := .l 91
def l92 : O := .l 92
def l93 : O := .l 93
def l94 : O := .l 94
def l95 : O := .l 95
def l96 : O := .l 96
def l97 : O := .l 97
def l98 : O := .l 98
def l99 : O := .l 99
def l100 : O := .l 100
def l101 : O := .l 101
def l102 : O := .l 102
def l103 : O := .l 103
def l104 : O := .l 104
def l105 : O := .l 105
def l106 : O := .l 106
def l107 : O := .l 107
def l108 : O := .l 108
def l109 : O := .l 109
def l110 : O := .l 110
def l111 : O := .l 111
def l112 : O := .l 112
def l113 : O := .l 113
def l114 : O := .l 114
def l115 : O := .l 115
def l116 : O := .l 116
def l117 : O := .l 117
def l118 : O := .l 118
def l119 : O := .l 119
def l120 : O := .l 120
def l121 : O := .l 121
def l122 : O := .l 122
def l123 : O := .l 123
def l124 : O := .l 124
def l125 : O := .l 125
def l126 : O := .l 126
def l127 : O := .l 127
def l128 : O := .l 128
def l129 : O := .l 129
def l130 : O := .l 130
def l131 : O := .l 131
def l132 : O := .l 132
def l133 : O := .l 133
def l134 : O := .l 134
def l135 : O := .l 135
def l136 : O := .l 136
def l137 : O := .l 137
def l138 : O := .l 138
def l139 : O := .l 139
def l140 : O := .l 140
def l141 : O := .l 141
def l142 : O := .l 142
def l143 : O := .l 143
def l144 : O := .l 144
def l145 : O := .l 145
def l146 : O := .l 146
def l147 : O := .l 147
def l148 : O := .l 148
def l149 : O := .l 149
def l150 : O := .l 150
def l151 : O := .l 151
def l152 : O := .l 152
def l153 : O := .l 153
def l154 : O := .l 154
def l155 : O := .l 155
def l156 : O := .l 156
def l157 : O := .l 157
def l158 : O := .l 158
def l159 : O := .l 159
def l160 : O := .l 160
def l161 : O := .l 161
def l162 : O := .l 162
def l163 : O := .l 163
def l164 : O := .l 164
def l165 : O := .l 165
def l166 : O := .l 166
def l167 : O := .l 167
def l168 : O := .l 168
def l169 : O := .l 169
def l170 : O := .l 170
def l171 : O := .l 171
def l172 : O := .l 172
def l173 : O := .l 173
def l174 : O := .l 174
def l175 : O := .l 175
def l176 : O := .l 176
def l177 : O := .l 177
def l178 : O := .l 178
def l179 : O := .l 179
def l180 : O := .l 180
def l181 : O := .l 181
def l182 : O := .l 182
def l183 : O := .l 183
def l184 : O := .l 184
def l185 : O := .l 185
def l186 : O := .l 186
def l187 : O := .l 187
def l188 : O := .l 188
def l189 : O := .l 189
def l190 : O := .l 190
def l191 : O := .l 191
def l192 : O := .l 192
def l193 : O := .l 193
def l194 : O := .l 194
def l195 : O := .l 195
def l196 : O := .l 196
def l197 : O := .l 197
def l198 : O := .l 198
def l199 : O := .l 199
def l200 : O := .l 200
def l201 : O := .l 201
def l202 : O := .l 202
def l203 : O := .l 203
def l204 : O := .l 204
def l205 : O := .l 205
def l206 : O := .l 206
def l207 : O := .l 207
def l208 : O := .l 208
def l209 : O := .l 209
def l210 : O := .l 210
def l211 : O := .l 211
def l212 : O := .l 212
def l213 : O := .l 213
def l214 : O := .l 214
def l215 : O := .l 215
def l216 : O := .l 216
def l217 : O := .l 217
def l218 : O := .l 218
def l219 : O := .l 219
def l220 : O := .l 220
def l221 : O := .l 221
def l222 : O := .l 222
def l223 : O := .l 223
def l224 : O := .l 224
def l225 : O := .l 225
def l226 : O := .l 226
def l227 : O := .l 227
def l228 : O := .l 228
def l229 : O := .l 229
def l230 : O := .l 230
def l231 : O := .l 231
def l232 : O := .l 232
def l233 : O := .l 233
def l234 : O := .l 234
def l235 : O := .l 235
def l236 : O := .l 236
def l237 : O := .l 237
def l238 : O := .l 238
def l239 : O := .l 239
def l240 : O := .l 240
def l241 : O := .l 241
def l242 : O := .l 242
def l243 : O := .l 243
def l244 : O := .l 244
def l245 : O := .l 245
def l246 : O := .l 246
def l247 : O := .l 247
def l248 : O := .l 248
def l249 : O := .l 249
def l250 : O := .l 250
def l251 : O := .l 251
def l252 : O := .l 252
def l253 : O := .l 253
def l254 : O := .l 254
def l255 : O := .l 255
def l256 : O := .l 256
def l257 : O := .l 257
def l258 : O := .l 258
def l259 : O := .l 259
def i0 : O := .c (.int .i64 (.ofNat 0))
def i1 : O := .c (.int .i64 (.ofNat 1))
def i2 : O := .c (.int .i64 (.ofNat 2))
def i3 : O := .c (.int .i64 (.ofNat 3))
def i4 : O := .c (.int .i64 (.ofNat 4))
def i5 : O := .c (.int .i64 (.ofNat 5))
def i6 : O := .c (.int .i64 (.ofNat 6))
def i7 : O := .c (.int .i64 (.ofNat 7))
def i8 : O := .c (.int .i64 (.ofNat 8))
def i9 : O := .c (.int .i64 (.ofNat 9))
def i10 : O := .c (.int .i64 (.ofNat 10))
def i11 : O := .c (.int .i64 (.ofNat 11))
def i12 : O := .c (.int .i64 (.ofNat 12))
def i13 : O := .c (.int .i64 (.ofNat 13))
def i14 : O := .c (.int .i64 (.ofNat 14))
def i15 : O := .c (.int .i64 (.ofNat 15))
def i16 : O := .c (.int .i64 (.ofNat 16))
def i17 : O := .c (.int .i64 (.ofNat 17))
def i18 : O := .c (.int .i64 (.ofNat 18))
def i19 : O := .c (.int .i64 (.ofNat 19))
def i20 : O := .c (.int .i64 (.ofNat 20))
def i21 : O := .c (.int .i64 (.ofNat 21))
def i22 : O := .c (.int .i64 (.ofNat 22))
def i23 : O := .c (.int .i64 (.ofNat 23))
def i24 : O := .c (.int .i64 (.ofNat 24))
def i25 : O := .c (.int .i64 (.ofNat 25))
def i26 : O := .c (.int .i64 (.ofNat 26))
def i27 : O := .c (.int .i64 (.ofNat 27))
def i28 : O := .c (.int .i64 (.ofNat 28))
def i29 : O := .c (.int .i64 (.ofNat 29))
def i30 : O := .c (.int .i64 (.ofNat 30))
def i31 : O := .c (.int .i64 (.ofNat 31))
def i32 : O := .c (.int .i64 (.ofNat 32))
def i33 : O := .c (.int .i64 (.ofNat 33))
def i34 : O := .c (.int .i64 (.ofNat 34))
def i35 : O := .c (.int .i64 (.ofNat 35))
def i36 : O := .c (.int .i64 (.ofNat 36))
def i37 : O := .c (.int .i64 (.ofNat 37))
def i38 : O := .c (.int .i64 (.ofNat 38))
def i39 : O := .c (.int .i64 (.ofNat 39))
def i40 : O := .c (.int .i64 (.ofNat 40))
def i41 : O := .c (.int .i64 (.ofNat 41))
def i42 : O := .c (.int .i64 (.ofNat 42))
def i43 : O := .c (.int .i64 (.ofNat 43))
def i44 : O := .c (.int .i64 (.ofNat 44))
def i45 : O := .c (.int .i64 (.ofNat 45))
def i46 : O := .c (.int .i64 (.ofNat 46))
def i47 : O := .c (.int .i64 (.ofNat 47))
def i48 : O := .c (.int .i64 (.ofNat 48))
def i49 : O := .c (.int .i64 (.ofNat 49))
def i50 : O := .c (.int .i64 (.ofNat 50))
def i51 : O := .c (.int .i64 (.ofNat 51))
def i52 : O := .c (.int .i64 (.ofNat 52))
def i53 : O := .c (.int .i64 (.ofNat 53))
def i54 : O := .c (.int .i64 (.ofNat 54))
def i55 : O := .c (.int .i64 (.ofNat 55))
def i56 : O := .c (.int .i64 (.ofNat 56))
def i57 : O := .c (.int .i64 (.ofNat 57))
def i58 : O := .c (.int .i64 (.ofNat 58))
def i59 : O := .c (.int .i64 (.ofNat 59))
def i60 : O := .c (.int .i64 (.ofNat 60))
def i61 : O := .c (.int .i64 (.ofNat 61))
def i62 : O := .c (.int .i64 (.ofNat 62))
def i63 : O := .c (.int .i64 (.ofNat 63))
def i64 : O := .c (.int .i64 (.ofNat 64))
def ctt : O := .c (.bool true)
def cff : O := .c (.bool false)
def cni : O := .c .nili
end Go.Proofs.YtdojpbbdcgfcnaaGreatDoor.AI.T
/- Operands by name, as rules. Printed by a program of ours. -/
set_option maxRecDepth 100000
namespace Go.Proofs.YtdojpbbdcgfcnaaGreatDoor.AI.T
open Go Go.Proofs.YtdojpbbdcgfcnaaGreatDoor.AI
@[simp] theorem p0_s : p0 = Pos.ofNat 0 := Eq.trans rfl rfl
@[simp] theorem t0_s : t0 = .t (Pos.ofNat 0) := Eq.trans rfl rfl
@[simp] theorem p1_s : p1 = Pos.ofNat 1 := Eq.trans rfl rfl
@[simp] theorem t1_s : t1 = .t (Pos.ofNat 1) := Eq.trans rfl rfl
@[simp] theorem p2_s : p2 = Pos.ofNat 2 := Eq.trans rfl rfl
@[simp] theorem t2_s : t2 = .t (Pos.ofNat 2) := Eq.trans rfl rfl
@[simp] theorem p3_s : p3 = Pos.ofNat 3 := Eq.trans rfl rfl
@[simp] theorem t3_s : t3 = .t (Pos.ofNat 3) := Eq.trans rfl rfl
@[simp] theorem p4_s : p4 = Pos.ofNat 4 := Eq.trans rfl rfl
@[simp] theorem t4_s : t4 = .t (Pos.ofNat 4) := Eq.trans rfl rfl
@[simp] theorem p5_s : p5 = Pos.ofNat 5 := Eq.trans rfl rfl
@[simp] theorem t5_s : t5 = .t (Pos.ofNat 5) := Eq.trans rfl rfl
@[simp] theorem p6_s : p6 = Pos.ofNat 6 := Eq.trans rfl rfl
@[simp] theorem t6_s : t6 = .t (Pos.ofNat 6) := Eq.trans rfl rfl
@[simp] theorem p7_s : p7 = Pos.ofNat 7 := Eq.trans rfl rfl
@[simp] theorem t7_s : t7 = .t (Pos.ofNat 7) := Eq.trans rfl rfl
@[simp] theorem p8_s : p8 = Pos.ofNat 8 := Eq.trans rfl rfl
@[simp] theorem t8_s : t8 = .t (Pos.ofNat 8) := Eq.trans rfl rfl
@[simp] theorem p9_s : p9 = Pos.ofNat 9 := Eq.trans rfl rfl
@[simp] theorem t9_s : t9 = .t (Pos.ofNat 9) := Eq.trans rfl rfl
@[simp] theorem p10_s : p10 = Pos.ofNat 10 := Eq.trans rfl rfl
@[simp] theorem t10_s : t10 = .t (Pos.ofNat 10) := Eq.trans rfl rfl
@[simp] theorem p11_s : p11 = Pos.ofNat 11 := Eq.trans rfl rfl
@[simp] theorem t11_s : t11 = .t (Pos.ofNat 11) := Eq.trans rfl rfl
@[simp] theorem p12_s : p12 = Pos.ofNat 12 := Eq.trans rfl rfl
@[simp] theorem t12_s : t12 = .t (Pos.ofNat 12) := Eq.trans rfl rfl
@[simp] theorem p13_s : p13 = Pos.ofNat 13 := Eq.trans rfl rfl
@[simp] theorem t13_s : t13 = .t (Pos.ofNat 13) := Eq.trans rfl rfl
@[simp] theorem p14_s : p14 = Pos.ofNat 14 := Eq.trans rfl rfl
@[simp] theorem t14_s : t14 = .t (Pos.ofNat 14) := Eq.trans rfl rfl
@[simp] theorem p15_s : p15 = Pos.ofNat 15 := Eq.trans rfl rfl
@[simp] theorem t15_s : t15 = .t (Pos.ofNat 15) := Eq.trans rfl rfl
@[simp] theorem p16_s : p16 = Pos.ofNat 16 := Eq.trans rfl rfl
@[simp] theorem t16_s : t16 = .t (Pos.ofNat 16) := Eq.trans rfl rfl
@[simp] theorem p17_s : p17 = Pos.ofNat 17 := Eq.trans rfl rfl
@[simp] theorem t17_s : t17 = .t (Pos.ofNat 17) := Eq.trans rfl rfl
@[simp] theorem p18_s : p18 = Pos.ofNat 18 := Eq.trans rfl rfl
@[simp] theorem t18_s : t18 = .t (Pos.ofNat 18) := Eq.trans rfl rfl
@[simp] theorem p19_s : p19 = Pos.ofNat 19 := Eq.trans rfl rfl
@[simp] theorem t19_s : t19 = .t (Pos.ofNat 19) := Eq.trans rfl rfl
@[simp] theorem p20_s : p20 = Pos.ofNat 20 := Eq.trans rfl rfl
@[simp] theorem t20_s : t20 = .t (Pos.ofNat 20) := Eq.trans rfl rfl
@[simp] theorem p21_s : p21 = Pos.ofNat 21 := Eq.trans rfl rfl
@[simp] theorem t21_s : t21 = .t (Pos.ofNat 21) := Eq.trans rfl rfl
@[simp] theorem p22_s : p22 = Pos.ofNat 22 := Eq.trans rfl rfl
@[simp] theorem t22_s : t22 = .t (Pos.ofNat 22) := Eq.trans rfl rfl
@[simp] theorem p23_s : p23 = Pos.ofNat 23 := Eq.trans rfl rfl
@[simp] theorem t23_s : t23 = .t (Pos.ofNat 23) := Eq.trans rfl rfl
@[simp] theorem p24_s : p24 = Pos.ofNat 24 := Eq.trans rfl rfl
@[simp] theorem t24_s : t24 = .t (Pos.ofNat 24) := Eq.trans rfl rfl
@[simp] theorem p25_s : p25 = Pos.ofNat 25 := Eq.trans rfl rfl
@[simp] theorem t25_s : t25 = .t (Pos.ofNat 25) := Eq.trans rfl rfl
@[simp] theorem p26_s : p26 = Pos.ofNat 26 := Eq.trans rfl rfl
@[simp] theorem t26_s : t26 = .t (Pos.ofNat 26) := Eq.trans rfl rfl
@[simp] theorem p27_s : p27 = Pos.ofNat 27 := Eq.trans rfl rfl
@[simp] theorem t27_s : t27 = .t (Pos.ofNat 27) := Eq.trans rfl rfl
@[simp] theorem p28_s : p28 = Pos.ofNat 28 := Eq.trans rfl rfl
@[simp] theorem t28_s : t28 = .t (Pos.ofNat 28) := Eq.trans rfl rfl
@[simp] theorem p29_s : p29 = Pos.ofNat 29 := Eq.trans rfl rfl
@[simp] theorem t29_s : t29 = .t (Pos.ofNat 29) := Eq.trans rfl rfl
@[simp] theorem p30_s : p30 = Pos.ofNat 30 := Eq.trans rfl rfl
@[simp] theorem t30_s : t30 = .t (Pos.ofNat 30) := Eq.trans rfl rfl
@[simp] theorem p31_s : p31 = Pos.ofNat 31 := Eq.trans rfl rfl
@[simp] theorem t31_s : t31 = .t (Pos.ofNat 31) := Eq.trans rfl rfl
@[simp] theorem p32_s : p32 = Pos.ofNat 32 := Eq.trans rfl rfl
@[simp] theorem t32_s : t32 = .t (Pos.ofNat 32) := Eq.trans rfl rfl
@[simp] theorem p33_s : p33 = Pos.ofNat 33 := Eq.trans rfl rfl
@[simp] theorem t33_s : t33 = .t (Pos.ofNat 33) := Eq.trans rfl rfl
@[simp] theorem p34_s : p34 = Pos.ofNat 34 := Eq.trans rfl rfl
@[simp] theorem t34_s : t34 = .t (Pos.ofNat 34) := Eq.trans rfl rfl
@[simp] theorem p35_s : p35 = Pos.ofNat 35 := Eq.trans rfl rfl
@[simp] theorem t35_s : t35 = .t (Pos.ofNat 35) := Eq.trans rfl rfl
@[simp] theorem p36_s : p36 = Pos.ofNat 36 := Eq.trans rfl rfl
@[simp] theorem t36_s : t36 = .t (Pos.ofNat 36) := Eq.trans rfl rfl
@[simp] theorem p37_s : p37 = Pos.ofNat 37 := Eq.trans rfl rfl
@[simp] theorem t37_s : t37 = .t (Pos.ofNat 37) := Eq.trans rfl rfl
@[simp] theorem p38_s : p38 = Pos.ofNat 38 := Eq.trans rfl rfl
@[simp] theorem t38_s : t38 = .t (Pos.ofNat 38) := Eq.trans rfl rfl
@[simp] theorem p39_s : p39 = Pos.ofNat 39 := Eq.trans rfl rfl
@[simp] theorem t39_s : t39 = .t (Pos.ofNat 39) := Eq.trans rfl rfl
@[simp] theorem p40_s : p40 = Pos.ofNat 40 := Eq.trans rfl rfl
@[simp] theorem t40_s : t40 = .t (Pos.ofNat 40) := Eq.trans rfl rfl
@[simp] theorem p41_s : p41 = Pos.ofNat 41 := Eq.trans rfl rfl
@[simp] theorem t41_s : t41 = .t (Pos.ofNat 41) := Eq.trans rfl rfl
@[simp] theorem p42_s : p42 = Pos.ofNat 42 := Eq.trans rfl rfl
@[simp] theorem t42_s : t42 = .t (Pos.ofNat 42) := Eq.trans rfl rfl
@[simp] theorem p43_s : p43 = Pos.ofNat 43 := Eq.trans rfl rfl
@[simp] theorem t43_s : t43 = .t (Pos.ofNat 43) := Eq.trans rfl rfl
@[simp] theorem p44_s : p44 = Pos.ofNat 44 := Eq.trans rfl rfl
@[simp] theorem t44_s : t44 = .t (Pos.ofNat 44) := Eq.trans rfl rfl
@[simp] theorem p45_s : p45 = Pos.ofNat 45 := Eq.trans rfl rfl
@[simp] theorem t45_s : t45 = .t (Pos.ofNat 45) := Eq.trans rfl rfl
@[simp] theorem p46_s : p46 = Pos.ofNat 46 := Eq.trans rfl rfl
@[simp] theorem t46_s : t46 = .t (Pos.ofNat 46) := Eq.trans rfl rfl
@[simp] theorem p47_s : p47 = Pos.ofNat 47 := Eq.trans rfl rfl
@[simp] theorem t47_s : t47 = .t (Pos.ofNat 47) := Eq.trans rfl rfl
@[simp] theorem p48_s : p48 = Pos.ofNat 48 := Eq.trans rfl rfl
@[simp] theorem t48_s : t48 = .t (Pos.ofNat 48) := Eq.trans rfl rfl
@[simp] theorem p49_s : p49 = Pos.ofNat 49 := Eq.trans rfl rfl
@[simp] theorem t49_s : t49 = .t (Pos.ofNat 49) := Eq.trans rfl rfl
@[simp] theorem p50_s : p50 = Pos.ofNat 50 := Eq.trans rfl rfl
@[simp] theorem t50_s : t50 = .t (Pos.ofNat 50) := Eq.trans rfl rfl
@[simp] theorem p51_s : p51 = Pos.ofNat 51 := Eq.trans rfl rfl
@[simp] theorem t51_s : t51 = .t (Pos.ofNat 51) := Eq.trans rfl rfl
@[simp] theorem p52_s : p52 = Pos.ofNat 52 := Eq.trans rfl rfl
@[simp] theorem t52_s : t52 = .t (Pos.ofNat 52) := Eq.trans rfl rfl
@[simp] theorem p53_s : p53 = Pos.ofNat 53 := Eq.trans rfl rfl
@[simp] theorem t53_s : t53 = .t (Pos.ofNat 53) := Eq.trans rfl rfl
@[simp] theorem p54_s : p54 = Pos.ofNat 54 := Eq.trans rfl rfl
@[simp] theorem t54_s : t54 = .t (Pos.ofNat 54) := Eq.trans rfl rfl
@[simp] theorem p55_s : p55 = Pos.ofNat 55 := Eq.trans rfl rfl
@[simp] theorem t55_s : t55 = .t (Pos.ofNat 55) := Eq.trans rfl rfl
@[simp] theorem p56_s : p56 = Pos.ofNat 56 := Eq.trans rfl rfl
@[simp] theorem t56_s : t56 = .t (Pos.ofNat 56) := Eq.trans rfl rfl
@[simp] theorem p57_s : p57 = Pos.ofNat 57 := Eq.trans rfl rfl
@[simp] theorem t57_s : t57 = .t (Pos.ofNat 57) := Eq.trans rfl rfl
@[simp] theorem p58_s : p58 = Pos.ofNat 58 := Eq.trans rfl rfl
@[simp] theorem t58_s : t58 = .t (Pos.ofNat 58) := Eq.trans rfl rfl
@[simp] theorem p59_s : p59 = Pos.ofNat 59 := Eq.trans rfl rfl
@[simp] theorem t59_s : t59 = .t (Pos.ofNat 59) := Eq.trans rfl rfl
@[simp] theorem p60_s : p60 = Pos.ofNat 60 := Eq.trans rfl rfl
@[simp] theorem t60_s : t60 = .t (Pos.ofNat 60) := Eq.trans rfl rfl
@[simp] theorem p61_s : p61 = Pos.ofNat 61 := Eq.trans rfl rfl
@[simp] theorem t61_s : t61 = .t (Pos.ofNat 61) := Eq.trans rfl rfl
@[simp] theorem p62_s : p62 = Pos.ofNat 62 := Eq.trans rfl rfl
@[simp] theorem t62_s : t62 = .t (Pos.ofNat 62) := Eq.trans rfl rfl
@[simp] theorem p63_s : p63 = Pos.ofNat 63 := Eq.trans rfl rfl
@[simp] theorem t63_s : t63 = .t (Pos.ofNat 63) := Eq.trans rfl rfl
@[simp] theorem p64_s : p64 = Pos.ofNat 64 := Eq.trans rfl rfl
@[simp] theorem t64_s : t64 = .t (Pos.ofNat 64) := Eq.trans rfl rfl
@[simp] theorem p65_s : p65 = Pos.ofNat 65 := Eq.trans rfl rfl
@[simp] theorem t65_s : t65 = .t (Pos.ofNat 65) := Eq.trans rfl rfl
@[simp] theorem p66_s : p66 = Pos.ofNat 66 := Eq.trans rfl rfl
@[simp] theorem t66_s : t66 = .t (Pos.ofNat 66) := Eq.trans rfl rfl
@[simp] theorem p67_s : p67 = Pos.ofNat 67 := Eq.trans rfl rfl
@[simp] theorem t67_s : t67 = .t (Pos.ofNat 67) := Eq.trans rfl rfl
@[simp] theorem p68_s : p68 = Pos.ofNat 68 := Eq.trans rfl rfl
@[simp] theorem t68_s : t68 = .t (Pos.ofNat 68) := Eq.trans rfl rfl
@[simp] theorem p69_s : p69 = Pos.ofNat 69 := Eq.trans rfl rfl
@[simp] theorem t69_s : t69 = .t (Pos.ofNat 69) := Eq.trans rfl rfl
@[simp] theorem p70_s : p70 = Pos.ofNat 70 := Eq.trans rfl rfl
@[simp] theorem t70_s : t70 = .t (Pos.ofNat 70) := Eq.trans rfl rfl
@[simp] theorem p71_s : p71 = Pos.ofNat 71 := Eq.trans rfl rfl
@[simp] theorem t71_s : t71 = .t (Pos.ofNat 71) := Eq.trans rfl rfl
@[simp] theorem p72_s : p72 = Pos.ofNat 72 := Eq.trans rfl rfl
@[simp] theorem t72_s : t72 = .t (Pos.ofNat 72) := Eq.trans rfl rfl
@[simp] theorem p73_s : p73 = Pos.ofNat 73 := Eq.trans rfl rfl
@[simp] theorem t73_s : t73 = .t (Pos.ofNat 73) := Eq.trans rfl rfl
@[simp] theorem p74_s : p74 = Pos.ofNat 74 := Eq.trans rfl rfl
@[simp] theorem t74_s : t74 = .t (Pos.ofNat 74) := Eq.trans rfl rfl
@[simp] theorem p75_s : p75 = Pos.ofNat 75 := Eq.trans rfl rfl
@[simp] theorem t75_s : t75 = .t (Pos.ofNat 75) := Eq.trans rfl rfl
@[simp] theorem p76_s : p76 = Pos.ofNat 76 := Eq.trans rfl rfl
@[simp] theorem t76_s : t76 = .t (Pos.ofNat 76) := Eq.trans rfl rfl
@[simp] theorem p77_s : p77 = Pos.ofNat 77 := Eq.trans rfl rfl
@[simp] theorem t77_s : t77 = .t (Pos.ofNat 77) := Eq.trans rfl rfl
@[simp] theorem p78_s : p78 = Pos.ofNat 78 := Eq.trans rfl rfl
@[simp] theorem t78_s : t78 = .t (Pos.ofNat 78) := Eq.trans rfl rfl
@[simp] theorem p79_s : p79 = Pos.ofNat 79 := Eq.trans rfl rfl
@[simp] theorem t79_s : t79 = .t (Pos.ofNat 79) := Eq.trans rfl rfl
@[simp] theorem p80_s : p80 = Pos.ofNat 80 := Eq.trans rfl rfl
@[simp] theorem t80_s : t80 = .t (Pos.ofNat 80) := Eq.trans rfl rfl
@[simp] theorem p81_s : p81 = Pos.ofNat 81 := Eq.trans rfl rfl
@[simp] theorem t81_s : t81 = .t (Pos.ofNat 81) := Eq.trans rfl rfl
@[simp] theorem p82_s : p82 = Pos.ofNat 82 := Eq.trans rfl rfl
@[simp] theorem t82_s : t82 = .t (Pos.ofNat 82) := Eq.trans rfl rfl
@[simp] theorem p83_s : p83 = Pos.ofNat 83 := Eq.trans rfl rfl
@[simp] theorem t83_s : t83 = .t (Pos.ofNat 83) := Eq.trans rfl rfl
@[simp] theorem p84_s : p84 = Pos.ofNat 84 := Eq.trans rfl rfl
@[simp] theorem t84_s : t84 = .t (Pos.ofNat 84) := Eq.trans rfl rfl
@[simp] theorem p85_s : p85 = Pos.ofNat 85 := Eq.trans rfl rfl
@[simp] theorem t85_s : t85 = .t (Pos.ofNat 85) := Eq.trans rfl rfl
@[simp] theorem p86_s : p86 = Pos.ofNat 86 := Eq.trans rfl rfl
@[simp] theorem t86_s : t86 = .t (Pos.ofNat 86) := Eq.trans rfl rfl
@[simp] theorem p87_s : p87 = Pos.ofNat 87 := Eq.trans rfl rfl
@[simp] theorem t87_s : t87 = .t (Pos.ofNat 87) := Eq.trans rfl rfl
@[simp] theorem p88_s : p88 = Pos.ofNat 88 := Eq.trans rfl rfl
@[simp] theorem t88_s : t88 = .t (Pos.ofNat 88) := Eq.trans rfl rfl
@[simp] theorem p89_s : p89 = Pos.ofNat 89 := Eq.trans rfl rfl
@[simp] theorem t89_s : t89 = .t (Pos.ofNat 89) := Eq.trans rfl rfl
@[simp] theorem p90_s : p90 = Pos.ofNat 90 := Eq.trans rfl rfl
@[simp] theorem t90_s : t90 = .t (Pos.ofNat 90) := Eq.trans rfl rfl
@[simp] theorem p91_s : p91 = Pos.ofNat 91 := Eq.trans rfl rfl
@[simp] theorem t91_s : t91 = .t (Pos.ofNat 91) := Eq.trans rfl rfl
@[simp] theorem p92_s : p92 = Pos.ofNat 92 := Eq.trans rfl rfl
@[simp] theorem t92_s : t92 = .t (Pos.ofNat 92) := Eq.trans rfl rfl
@[simp] theorem p93_s : p93 = Pos.ofNat 93 := Eq.trans rfl rfl
@[simp] theorem t93_s : t93 = .t (Pos.ofNat 93) := Eq.trans rfl rfl
@[simp] theorem p94_s : p94 = Pos.ofNat 94 := Eq.trans rfl rfl
@[simp] theorem t94_s : t94 = .t (Pos.ofNat 94) := Eq.trans rfl rfl
@[simp] theorem p95_s : p95 = Pos.ofNat 95 := Eq.trans rfl rfl
@[simp] theorem t95_s : t95 = .t (Pos.ofNat 95) := Eq.trans rfl rfl
@[simp] theorem p96_s : p96 = Pos.ofNat 96 := Eq.trans rfl rfl
@[simp] theorem t96_s : t96 = .t (Pos.ofNat 96) := Eq.trans rfl rfl
@[simp] theorem p97_s : p97 = Pos.ofNat 97 := Eq.trans rfl rfl
@[simp] theorem t97_s : t97 = .t (Pos.ofNat 97) := Eq.trans rfl rfl
@[simp] theorem p98_s : p98 = Pos.ofNat 98 := Eq.trans rfl rfl
@[simp] theorem t98_s : t98 = .t (Pos.ofNat 98) := Eq.trans rfl rfl
@[simp] theorem p99_s : p99 = Pos.ofNat 99 := Eq.trans rfl rfl
@[simp] theorem t99_s : t99 = .t (Pos.ofNat 99) := Eq.trans rfl rfl
@[simp] theorem l0_s : l0 = .l 0 := Eq.trans rfl rfl
@[simp] theorem l1_s : l1 = .l 1 := Eq.trans rfl rfl
@[simp] theorem l2_s : l2 = .l 2 := Eq.trans rfl rfl
@[simp] theorem l3_s : l3 = .l 3 := Eq.trans rfl rfl
@[simp] theorem l4_s : l4 = .l 4 := Eq.trans rfl rfl
@[simp] theorem l5_s : l5 = .l 5 := Eq.trans rfl rfl
@[simp] theorem l6_s : l6 = .l 6 := Eq.trans rfl rfl
@[simp] theorem l7_s : l7 = .l 7 := Eq.trans rfl rfl
@[simp] theorem l8_s : l8 = .l 8 := Eq.trans rfl rfl
@[simp] theorem l9_s : l9 = .l 9 := Eq.trans rfl rfl
@[simp] theorem l10_s : l10 = .l 10 := Eq.trans rfl rfl
@[simp] theorem l11_s : l11 = .l 11 := Eq.trans rfl rfl
@[simp] theorem l12_s : l12 = .l 12 := Eq.trans rfl rfl
@[simp] theorem l13_s : l13 = .l 13 := Eq.trans rfl rfl
@[simp] theorem l14_s : l14 = .l 14 := Eq.trans rfl rfl
@[simp] theorem l15_s : l15 = .l 15 := Eq.trans rfl rfl
@[simp] theorem l16_s : l16 = .l 16 := Eq.trans rfl rfl
@[simp] theorem l17_s : l17 = .l 17 := Eq.trans rfl rfl
@[simp] theorem l18_s : l18 = .l 18 := Eq.trans rfl rfl
@[simp] theorem l19_s : l19 = .l 19 := Eq.trans rfl rfl
@[simp] theorem l20_s : l20 = .l 20 := Eq.trans rfl rfl
@[simp] theorem l21_s : l21 = .l 21 := Eq.trans rfl rfl
@[simp] theorem l22_s : l22 = .l 22 := Eq.trans rfl rfl
@[simp] theorem l23_s : l23 = .l 23 := Eq.trans rfl rfl
@[simp] theorem l24_s : l24 = .l 24 := Eq.trans rfl rfl
@[simp] theorem l25_s : l25 = .l 25 := Eq.trans rfl rfl
@[simp] theorem l26_s : l26 = .l 26 := Eq.trans rfl rfl
@[simp] theorem l27_s : l27 = .l 27 := Eq.trans rfl rfl
@[simp] theorem l28_s : l28 = .l 28 := Eq.trans rfl rfl
@[simp] theorem l29_s : l29 = .l 29 := Eq.trans rfl rfl
@[simp] theorem l30_s : l30 = .l 30 := Eq.trans rfl rfl
@[simp] theorem l31_s : l31 = .l 31 := Eq.trans rfl rfl
@[simp] theorem l32_s : l32 = .l 32 := Eq.trans rfl rfl
@[simp] theorem l33_s : l33 = .l 33 := Eq.trans rfl rfl
@[simp] theorem l34_s : l34 = .l 34 := Eq.trans rfl rfl
@[simp] theorem l35_s : l35 = .l 35 := Eq.trans rfl rfl
@[simp] theorem l36_s : l36 = .l 36 := Eq.trans rfl rfl
@[simp] theorem l37_s : l37 = .l 37 := Eq.trans rfl rfl
@[simp] theorem l38_s : l38 = .l 38 := Eq.trans rfl rfl
@[simp] theorem l39_s : l39 = .l 39 := Eq.trans rfl rfl
@[simp] theorem l40_s : l40 = .l 40 := Eq.trans rfl rfl
@[simp] theorem l41_s : l41 = .l 41 := Eq.trans rfl rfl
@[simp] theorem l42_s : l42 = .l 42 := Eq.trans rfl rfl
@[simp] theorem l43_s : l43 = .l 43 := Eq.trans rfl rfl
@[simp] theorem l44_s : l44 = .l 44 := Eq.trans rfl rfl
@[simp] theorem l45_s : l45 = .l 45 := Eq.trans rfl rfl
@[simp] theorem l46_s : l46 = .l 46 := Eq.trans rfl rfl
@[simp] theorem l47_s : l47 = .l 47 := Eq.trans rfl rfl
@[simp] theorem l48_s : l48 = .l 48 := Eq.trans rfl rfl
@[simp] theorem l49_s : l49 = .l 49 := Eq.trans rfl rfl
@[simp] theorem l50_s : l50 = .l 50 := Eq.trans rfl rfl
@[simp] theorem l51_s : l51 = .l 51 := Eq.trans rfl rfl
@[simp] theorem l52_s : l52 = .l 52 := Eq.trans rfl rfl
@[simp] theorem l53_s : l53 = .l 53 := Eq.trans rfl rfl
@[simp] theorem l54_s : l54 = .l 54 := Eq.trans rfl rfl
@[simp] theorem l55_s : l55 = .l 55 := Eq.trans rfl rfl
@[simp] theorem l56_s : l56 = .l 56 := Eq.trans rfl rfl
@[simp] theorem l57_s : l57 = .l 57 := Eq.trans rfl rfl
@[simp] theorem l58_s : l58 = .l 58 := Eq.trans rfl rfl
@[simp] theorem l59_s : l59 = .l 59 := Eq.trans rfl rfl
@[simp] theorem i0_s : i0 = .c (.int .i64 0) := Eq.trans rfl rfl
@[simp] theorem i1_s : i1 = .c (.int .i64 1) := Eq.trans rfl rfl
@[simp] theorem i2_s : i2 = .c (.int .i64 2) := Eq.trans rfl rfl
@[simp] theorem i3_s : i3 = .c (.int .i64 3) := Eq.trans rfl rfl
@[simp] theorem i4_s : i4 = .c (.int .i64 4) := Eq.trans rfl rfl
@[simp] theorem i5_s : i5 = .c (.int .i64 5) := Eq.trans rfl rfl
@[simp] theorem i6_s : i6 = .c (.int .i64 6) := Eq.trans rfl rfl
@[simp] theorem i7_s : i7 = .c (.int .i64 7) := Eq.trans rfl rfl
@[simp] theorem i8_s : i8 = .c (.int .i64 8) := Eq.trans rfl rfl
@[simp] theorem i9_s : i9 = .c (.int .i64 9) := Eq.trans rfl rfl
@[simp] theorem i10_s : i10 = .c (.int .i64 10) := Eq.trans rfl rfl
@[simp] theorem i11_s : i11 = .c (.int .i64 11) := Eq.trans rfl rfl
@[simp] theorem i12_s : i12 = .c (.int .i64 12) := Eq.trans rfl rfl
@[simp] theorem i13_s : i13 = .c (.int .i64 13) := Eq.trans rfl rfl
@[simp] theorem i14_s : i14 = .c (.int .i64 14) := Eq.trans rfl rfl
@[simp] theorem i15_s : i15 = .c (.int .i64 15) := Eq.trans rfl rfl
@[simp] theorem i16_s : i16 = .c (.int .i64 16) := Eq.trans rfl rfl
@[simp] theorem i17_s : i17 = .c (.int .i64 17) := Eq.trans rfl rfl
@[simp] theorem i18_s : i18 = .c (.int .i64 18) := Eq.trans rfl rfl
@[simp] theorem i19_s : i19 = .c (.int .i64 19) := Eq.trans rfl rfl
@[simp] theorem i20_s : i20 = .c (.int .i64 20) := Eq.trans rfl rfl
@[simp] theorem i21_s : i21 = .c (.int .i64 21) := Eq.trans rfl rfl
@[simp] theorem i22_s : i22 = .c (.int .i64 22) := Eq.trans rfl rfl
@[simp] theorem i23_s : i23 = .c (.int .i64 23) := Eq.trans rfl rfl
@[simp] theorem i24_s : i24 = .c (.int .i64 24) := Eq.trans rfl rfl
@[simp] theorem i25_s : i25 = .c (.int .i64 25) := Eq.trans rfl rfl
@[simp] theorem i26_s : i26 = .c (.int .i64 26) := Eq.trans rfl rfl
@[simp] theorem i27_s : i27 = .c (.int .i64 27) := Eq.trans rfl rfl
@[simp] theorem i28_s : i28 = .c (.int .i64 28) := Eq.trans rfl rfl
@[simp] theorem i29_s : i29 = .c (.int .i64 29) := Eq.trans rfl rfl
@[simp] theorem i30_s : i30 = .c (.int .i64 30) := Eq.trans rfl rfl
@[simp] theorem i31_s : i31 = .c (.int .i64 31) := Eq.trans rfl rfl
@[simp] theorem i32_s : i32 = .c (.int .i64 32) := Eq.trans rfl rfl
@[simp] theorem i33_s : i33 = .c (.int .i64 33) := Eq.trans rfl rfl
@[simp] theorem i34_s : i34 = .c (.int .i64 34) := Eq.trans rfl rfl
@[simp] theorem i35_s : i35 = .c (.int .i64 35) := Eq.trans rfl rfl
@[simp] theorem i36_s : i36 = .c (.int .i64 36) := Eq.trans rfl rfl
@[simp] theorem i37_s : i37 = .c (.int .i64 37) := Eq.trans rfl rfl
@[simp] theorem i38_s : i38 = .c (.int .i64 38) := Eq.trans rfl rfl
@[simp] theorem i39_s : i39 = .c (.int .i64 39) := Eq.trans rfl rfl
@[simp] theorem i40_s : i40 = .c (.int .i64 40) := Eq.trans rfl rfl
@[simp] theorem i41_s : i41 = .c (.int .i64 41) := Eq.trans rfl rfl
@[simp] theorem i42_s : i42 = .c (.int .i64 42) := Eq.trans rfl rfl
@[simp] theorem i43_s : i43 = .c (.int .i64 43) := Eq.trans rfl rfl
@[simp] theorem i44_s : i44 = .c (.int .i64 44) := Eq.trans rfl rfl
@[simp] theorem i45_s : i45 = .c (.int .i64 45) := Eq.trans rfl rfl
@[simp] theorem i46_s : i46 = .c (.int .i64 46) := Eq.trans rfl rfl
@[simp] theorem i47_s : i47 = .c (.int .i64 47) := Eq.trans rfl rfl
@[simp] theorem i48_s : i48 = .c (.int .i64 48) := Eq.trans rfl rfl
@[simp] theorem i49_s : i49 = .c (.int .i64 49) := Eq.trans rfl rfl
@[simp] theorem i50_s : i50 = .c (.int .i64 50) := Eq.trans rfl rfl
@[simp] theorem i51_s : i51 = .c (.int .i64 51) := Eq.trans rfl rfl
@[simp] theorem i52_s : i52 = .c (.int .i64 52) := Eq.trans rfl rfl
@[simp] theorem i53_s : i53 = .c (.int .i64 53) := Eq.trans rfl rfl
@[simp] theorem i54_s : i54 = .c (.int .i64 54) := Eq.trans rfl rfl
@[simp] theorem i55_s : i55 = .c (.int .i64 55) := Eq.trans rfl rfl
@[simp] theorem i56_s : i56 = .c (.int .i64 56) := Eq.trans rfl rfl
@[simp] theorem i57_s : i57 = .c (.int .i64 57) := Eq.trans rfl rfl
@[simp] theorem i58_s : i58 = .c (.int .i64 58) := Eq.trans rfl rfl
@[simp] theorem i59_s : i59 = .c (.int .i64 59) := Eq.trans rfl rfl
@[simp] theorem i60_s : i60 = .c (.int .i64 60) := Eq.trans rfl rfl
@[simp] theorem i61_s : i61 = .c (.int .i64 61) := Eq.trans rfl rfl
@[simp] theorem i62_s : i62 = .c (.int .i64 62) := Eq.trans rfl rfl
@[simp] theorem i63_s : i63 = .c (.int .i64 63) := Eq.trans rfl rfl
@[simp] theorem i64_s : i64 = .c (.int .i64 64) := Eq.trans rfl rfl
@[simp] theorem ctt_s : ctt = .c (.bool true) := Eq.trans rfl rfl
@[simp] theorem cff_s : cff = .c (.bool false) := Eq.trans rfl rfl
@[simp] theorem cni_s : cni = .c .nili := Eq.trans rfl rfl
end Go.Proofs.YtdojpbbdcgfcnaaGreatDoor.AI.T
